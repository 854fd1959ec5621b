/- Own and printed texts, laid together. -/
import Derived.Test.YtgdpabedlghiaaaInGD
import Derived.WalkSpells
import Derived.Deep.RegionLaw
import Derived.Deep.DeepCutAuto
import Derived.Test.YtgdpabedlghiaaaInGB
import Derived.Test.YtgdpabedlghiaaaInGA
import Derived.ProofKit
import Derived.Deep.Slices
/- The walks of the document's reader. -/
namespace Go.Proofs.Ytgdpabedlghiaaa.Rf
open Go.Proofs.Ytgdpabedlghiaaa.Base Go.Proofs.Ytgdpabedlghiaaa.TlvPlain Go.Proofs.Ytgdpabedlghiaaa.Lo Go.RowKit Go.Proofs.YtgdpabedlghiaaaW.PrintWords Go.Proofs.YtgdpabedlghiaaaW.PrintLast Go.Proofs.YtgdpabedlghiaaaW.PrintMore

/-- The document's reader at block g: the bytes that are left, and whether it failed. -/
def Rdr (w0 W : World) (g : Nat) (failed : Bool) (bs : List Int) : Prop :=
  w0.heap.size ≤ g ∧ ∃ A c, W.heap[g]? = some (.cells #[.slice A bs.length c, .bool failed] 115 (0, 0)) ∧ bs.length ≤ c ∧ Rb W A bs ∧ bs.length < 140737488355328 ∧ U8 bs
theorem Rdr.lower {w0 w1 W : World} {g : Nat} {f : Bool} {bs : List Int} (h : Rdr w1 W g f bs) (hs : w0.heap.size ≤ w1.heap.size) : Rdr w0 W g f bs := ⟨Nat.le_trans hs h.1, h.2⟩
theorem cells_no_int {f : Bool} {A : Option Addr} {n c : Nat} (i : Nat) (v : Value) (h : (#[.slice A n c, Value.bool f] : Array Value)[i]? = some v) (k : Int) : v ≠ .int .u8 k := by
  match i, h with
  | 0, h => cases h; simp
  | 1, h => cases h; simp
theorem Rdr.below {w0 W W1 : World} {g : Nat} {f : Bool} {bs : List Int} (h : Rdr w0 W g f bs) (hb : Below W.heap.size W W1) : Rdr w0 W1 g f bs := by
  obtain ⟨h0, A, c, h1, h2, h3, h4⟩ := h
  exact ⟨h0, A, c, (hb.block g (blk_lt h1)).trans h1, h2, Kd.C_below h3 hb, h4⟩
/-- Where another block alone was written, in which no numbers lie. -/
theorem Rdr.keep {w0 W W1 : World} {g g' : Nat} {f : Bool} {bs : List Int} (h : Rdr w0 W g f bs) (hk : KeepBut W W1 g' none) (hne : g ≠ g') {T : Nat} {cs : Array Value} (hb : W.heap[g']? = some (.cells cs T (0, 0))) (hcs : ∀ i : Nat, ∀ v, cs[i]? = some v → ∀ n, v ≠ Value.int .u8 n) : Rdr w0 W1 g f bs := by
  obtain ⟨h0, A, c, h1, h2, h3, h4⟩ := h
  exact ⟨h0, A, c, hk.blk h1 hne (by simp), h2, reads_keep h3 hk (reads_ne hb hcs h3), h4⟩
theorem Rdr.set {w0 W : World} {g : Nat} {f : Bool} {bs : List Int} (h : Rdr w0 W g f bs) (f' : Bool) : Rdr w0 (W.setCell ⟨g, 1, none⟩ (.bool f')) g f' bs := by
  obtain ⟨h0, A, c, h1, h2, h3, h4⟩ := h
  exact ⟨h0, A, c, by simpa using blk_set h1 1 (.bool f'), h2, reads_keep h3 (keep_set _ _ _ _) (reads_ne h1 cells_no_int h3), h4⟩
theorem Rdr.cut {w0 W : World} {g : Nat} {f : Bool} {bs cs : List Int} (h : Rdr w0 W g f bs) {A' : Option Addr} {c' : Nat} (hc : cs.length ≤ c') (hr : Rb W A' cs) (hl : cs.length ≤ bs.length) (hu : U8 cs) : Rdr w0 (W.setCell ⟨g, 0, none⟩ (.slice A' cs.length c')) g f cs := by
  obtain ⟨h0, A, c, h1, h2, h3, h4⟩ := h
  exact ⟨h0, A', c', by simpa using blk_set h1 0 (.slice A' cs.length c'), hc, reads_keep hr (keep_set _ _ _ _) (reads_ne h1 cells_no_int hr), Nat.lt_of_le_of_lt hl h4.1, hu⟩

/-- The reader's state: the bytes that are left, or that it failed. -/
def RfO (w0 W : World) (g : Nat) (st : Option (List Int)) : Prop :=
  match st with
  | some bs => Rdr w0 W g false bs
  | none => ∃ bs, Rdr w0 W g true bs
theorem RfO.any {w0 W : World} {g : Nat} {st : Option (List Int)} (h : RfO w0 W g st) : ∃ bs, Rdr w0 W g (!st.isSome) bs := by
  cases st with
  | some bs => exact ⟨bs, h⟩
  | none => exact h
theorem RfO.below {w0 W W1 : World} {g : Nat} {st : Option (List Int)} (h : RfO w0 W g st) (hb : Below W.heap.size W W1) : RfO w0 W1 g st := by
  cases st with
  | some bs => exact Rdr.below h hb
  | none => obtain ⟨bs, h⟩ := h; exact ⟨bs, h.below hb⟩
theorem RfO.keep {w0 W W1 : World} {g g' : Nat} {st : Option (List Int)} (h : RfO w0 W g st) (hk : KeepBut W W1 g' none) (hne : g ≠ g') {T : Nat} {cs : Array Value} (hb : W.heap[g']? = some (.cells cs T (0, 0))) (hcs : ∀ i : Nat, ∀ v, cs[i]? = some v → ∀ n, v ≠ Value.int .u8 n) : RfO w0 W1 g st := by
  cases st with
  | some bs => exact Rdr.keep h hk hne hb hcs
  | none => obtain ⟨bs, h⟩ := h; exact ⟨bs, h.keep hk hne hb hcs⟩
theorem RfO.lower {w0 w1 W : World} {g : Nat} {st : Option (List Int)} (h : RfO w1 W g st) (hs : w0.heap.size ≤ w1.heap.size) : RfO w0 W g st := by
  cases st with
  | some bs => exact Rdr.lower h hs
  | none => obtain ⟨bs, h⟩ := h; exact ⟨bs, h.lower hs⟩
theorem RfO.blk {w0 W : World} {g : Nat} {st : Option (List Int)} (h : RfO w0 W g st) : w0.heap.size ≤ g ∧ g < W.heap.size ∧ ∃ cs, W.heap[g]? = some (.cells cs 115 (0, 0)) ∧ ∀ i : Nat, ∀ v, cs[i]? = some v → ∀ n, v ≠ Value.int .u8 n := by
  obtain ⟨bs, h0, A, c, h1, _⟩ := h.any
  exact ⟨h0, blk_lt h1, _, h1, cells_no_int⟩
theorem RfO.u8 {w0 W : World} {g : Nat} {bs : List Int} (h : RfO w0 W g (some bs)) : U8 bs ∧ bs.length < 140737488355328 := by
  obtain ⟨_, _, _, _, _, _, h1, h2⟩ := (show Rdr w0 W g false bs from h)
  exact ⟨h2, h1⟩
/-- What its field Fail reads as. -/
theorem RfO.fail {w0 W : World} {g : Nat} {st : Option (List Int)} (h : RfO w0 W g st) : W.cell? ⟨g, 1, none⟩ = some (.bool (!st.isSome)) ∧ W.frozen? ⟨g, 1, none⟩ = false := by
  obtain ⟨bs, _, A, c, h1, _⟩ := h.any
  exact ⟨(blk_cell h1 1).trans rfl, blk_frozen h1 1⟩
/-- What its field B reads as. -/
theorem RfO.bytes {w0 W : World} {g : Nat} {bs : List Int} (h : RfO w0 W g (some bs)) : ∃ A c, W.cell? ⟨g, 0, none⟩ = some (.slice A bs.length c) ∧ bs.length ≤ c ∧ Rb W A bs := by
  obtain ⟨_, A, c, h1, h2, h3, _⟩ := (show Rdr w0 W g false bs from h)
  exact ⟨A, c, (blk_cell h1 0).trans rfl, h2, h3⟩
theorem RfO.set {w0 W : World} {g : Nat} {st : Option (List Int)} (h : RfO w0 W g st) : RfO w0 (W.setCell ⟨g, 1, none⟩ (.bool true)) g none := by
  obtain ⟨bs, h⟩ := h.any
  exact ⟨bs, h.set true⟩
/-- What a call that is handed a reader leaves. -/
def Left (w0 w w' : World) (g : Nat) (st : Option (List Int)) : Prop := RfO w0 w' g st ∧ Below w0.heap.size w0 w' ∧ KeepBut w w' g none
theorem Left.trans {w0 w w1 w2 : World} {g : Nat} {s1 s2 : Option (List Int)} (h : Left w0 w w1 g s1) (k : Left w0 w1 w2 g s2) : Left w0 w w2 g s2 := ⟨k.1, k.2.1, h.2.2.trans k.2.2 (.inl rfl)⟩
theorem Left.set {w0 w w' : World} {g : Nat} {st : Option (List Int)} (h : Left w0 w w' g st) : Left w0 w (w'.setCell ⟨g, 1, none⟩ (.bool true)) g none := ⟨h.1.set, below_set h.2.1 h.1.blk.1, h.2.2.set_ 1 _⟩

set_option maxHeartbeats 1600000 in
set_option maxRecDepth 100000 in
theorem take_bad (w0 w : World) (g : Nat) (f : Bool) (bs : List Int) (n : Int) (h : Rdr w0 w g f bs) (hB : Below w0.heap.size w0 w) (hbad : ¬ (f = false ∧ 0 ≤ n ∧ n ≤ bs.length)) :
    Calls Try.prog 122 #[.pointer (some ⟨g, 0, none⟩), .int .i64 n] w fun e w' => ∃ v, e = .returned v ∧ Ob w' w.heap.size v [] ∧ Left w0 w w' g none := by
  have HB := Aside0.mk hB
  clear hB
  have hfin : Left w0 w (w.setCell ⟨g, 1, none⟩ (.bool true)) g none := ⟨⟨bs, h.set true⟩, below_set HB.out h.1, keep_set _ _ _ _⟩
  have HF := Aside0.mk hfin
  clear hfin
  obtain ⟨_, A, c, h1, _⟩ := h
  have hc0 : w.cell? ⟨g, 0, none⟩ = some (.slice A bs.length c) := (blk_cell h1 0).trans rfl
  have hc1 : w.cell? ⟨g, 1, none⟩ = some (.bool f) := (blk_cell h1 1).trans rfl
  have hf1 := blk_frozen h1 1
  clear h1
  cases f with
  | false =>
    by_cases hn : n < 0
    · have hd : decide (n < 0) = true := decide_eq_true hn
      clear hbad hn
      go_enter Try.func122, Try.ntmps122
      go_wp2
      go_ret
      exact ⟨_, rfl, Kd.R_nil _ _ _ _ _, HF.out⟩
    · have hd : decide (n < 0) = false := decide_eq_false hn
      have hg : decide ((bs.length : Int) < n) = true := decide_eq_true (by
        by_cases h2 : (bs.length : Int) < n
        · exact h2
        · exact absurd ⟨rfl, by omega, by omega⟩ hbad)
      clear hbad hn
      go_enter Try.func122, Try.ntmps122
      go_wp2
      go_ret
      exact ⟨_, rfl, Kd.R_nil _ _ _ _ _, HF.out⟩
  | true =>
    clear hbad
    go_enter Try.func122, Try.ntmps122
    go_wp2
    go_ret
    exact ⟨_, rfl, Kd.R_nil _ _ _ _ _, HF.out⟩

set_option maxHeartbeats 1600000 in
set_option maxRecDepth 100000 in
theorem take_good (w0 w : World) (g : Nat) (bs : List Int) (n : Nat) (h : Rdr w0 w g false bs) (hB : Below w0.heap.size w0 w) (hn : n ≤ bs.length) :
    Calls Try.prog 122 #[.pointer (some ⟨g, 0, none⟩), .int .i64 n] w fun e w' => ∃ v, e = .returned v ∧ Ob w' w.heap.size v (bs.take n) ∧ Left w0 w w' g (some (bs.drop n)) := by
  have HI := Aside0.mk h
  have HB := Aside0.mk hB
  clear hB
  obtain ⟨hg0, A, c, h1, h2, h3, h4⟩ := h
  have hnn : (0 : Int) ≤ (n : Int) := Int.natCast_nonneg _
  have hnc : (n : Int) ≤ (c : Int) := by omega
  have hd0 : decide ((n : Int) < 0) = false := decide_eq_false (by omega)
  have hd1 : decide ((bs.length : Int) < (n : Int)) = false := decide_eq_false (by omega)
  have hd2 : decide (bs.length < n) = false := decide_eq_false (by omega)
  have hc0 : w.cell? ⟨g, 0, none⟩ = some (.slice A bs.length c) := (blk_cell h1 0).trans rfl
  have hc1 : w.cell? ⟨g, 1, none⟩ = some (.bool false) := (blk_cell h1 1).trans rfl
  have hf0 := blk_frozen h1 0
  have HGL := Aside0.mk (blk_lt h1)
  have h3' := Kd.reads_of_C (d := (0 : Int)) h3
  have hlen : bs.length ≤ 9223372036854775807 := h3'.2.1
  obtain ⟨i0, hi, hz0, hz1, hz2⟩ := info_parts info_u8
  obtain ⟨A', hcut, hA'⟩ := print_cut (P := Try.prog) 27 5 .i64 Try.underlying27 hi hz1 A bs.length c n hn
  have hrest : Rb w A' (bs.drop n) := by
    have := Kd.C_of_reads (d := (0 : Int)) (h1 := fun _ => rfl) (hA' w .u8 bs h2 h3')
    rwa [← List.length_drop] at this
  have hfirst : Rb w A (bs.take n) := by
    have h5 := Kd.C_of_reads (d := (0 : Int)) (h1 := fun _ => rfl) (ReadsInt.take_ h3' n hn)
    show Kd.C _ w A (bs.take n).length (bs.take n)
    rw [show (bs.take n).length = n from by rw [List.length_take]; omega]
    exact h5
  have HREST := Aside0.mk hrest
  have HFIRST := Aside0.mk hfirst
  have HU := Aside0.mk (h4.2.drop n)
  have HTL := Aside0.mk (show (bs.take n).length = n by rw [List.length_take]; omega)
  have HBL := Aside0.mk (show n < 140737488355328 by have := h4.1; omega)
  have HNC := Aside0.mk (show n ≤ c by omega)
  have HDL := Aside0.mk (show (bs.drop n).length ≤ c - n ∧ (bs.drop n).length ≤ bs.length by rw [List.length_drop]; omega)
  clear hrest hfirst h1 h3 h4 hA' h3' hi hz0 hz1 hz2 hg0
  go_enter Try.func122, Try.ntmps122
  go_wp2_with (go_at_call 93; refine (copy_n A c n (bs.take n) _ HFIRST.out HTL.out HNC.out HBL.out).mono ?_; rintro e w1 ⟨v, rfl, ho, hb⟩; have HO := Aside0.mk ho; have HW := Aside0.mk hb; have hd0' := (hb.cell (p := ⟨g, 0, none⟩) HGL.out).trans hc0; have hf0' := (hb.frozen (p := ⟨g, 0, none⟩) HGL.out).trans hf0; clear ho hb hc0 hc1 hf0)
  go_ret
  have hR := ((HI.out.below HW.out).cut HDL.out.1 (Kd.C_below HREST.out HW.out) HDL.out.2 HU.out)
  rw [List.length_drop] at hR
  refine ⟨_, rfl, Kd.R_mono (Kd.R_far (Kd.R_bound HO.out) (p := ⟨g, 0, none⟩) (fun k hk e => ?_) _) (fun _ _ => trivial), hR, below_set (HB.out.trans (HW.out.mono HB.out.size)) HI.out.1, (KeepBut.of_below HW.out g none).set_ 0 _⟩
  have h1 := hk.2.1
  have h2 := HGL.out
  dsimp only at e
  omega

theorem takeO_ (w0 w : World) (g : Nat) (st : Option (List Int)) (n : Int) (h : RfO w0 w g st) (hB : Below w0.heap.size w0 w) :
    Calls Try.prog 122 #[.pointer (some ⟨g, 0, none⟩), .int .i64 n] w fun e w' => ∃ v, e = .returned v ∧ Ob w' w.heap.size v (takeO st n).1 ∧ Left w0 w w' g (takeO st n).2 := by
  cases st with
  | some bs =>
    by_cases hn : 0 ≤ n ∧ n ≤ bs.length
    · obtain ⟨m, rfl⟩ := Int.eq_ofNat_of_zero_le hn.1
      have e : takeO (some bs) (m : Int) = (bs.take m, some (bs.drop m)) := by simp only [takeO]; rw [if_pos hn]; rfl
      rw [e]
      exact take_good w0 w g bs m h hB (by omega)
    · have e : takeO (some bs) n = ([], none) := by simp only [takeO]; rw [if_neg hn]
      rw [e]
      exact take_bad w0 w g false bs n h hB (fun h => hn h.2)
  | none =>
    obtain ⟨bs, h⟩ := h
    exact take_bad w0 w g true bs n h hB (fun h => by cases h.1)
theorem take1_cons (x : Int) (r : List Int) : takeO (some (x :: r)) 1 = ([x], some r) := by
  simp only [takeO]
  rw [if_pos (by rw [List.length_cons]; omega)]
  rfl

set_option maxHeartbeats 1600000 in
set_option maxRecDepth 100000 in
theorem num_none (w0 w : World) (g : Nat) (st : Option (List Int)) (h : RfO w0 w g st) (hB : Below w0.heap.size w0 w) (hst : takeO st 1 = ([], none)) :
    Calls Try.prog 123 #[.pointer (some ⟨g, 0, none⟩)] w fun e w' => e = .returned (.int .u64 0) ∧ Left w0 w w' g none := by
  have HS := Aside0.mk h
  have HB := Aside0.mk hB
  have E1 := Aside0.mk hst
  clear h hB hst
  go_enter Try.func123, Try.ntmps123
  go_wp2_with (first
    | (go_at_call 122; refine (takeO_ _ _ _ _ _ HS.out HB.out).mono ?_; rintro e w1 ⟨v, rfl, ho, hl⟩; rw [E1.out] at ho hl; have HL := Aside0.mk hl; have hc1 : w1.cell? ⟨g, 1, none⟩ = some (.bool true) := hl.1.fail.1; have hf1 := hl.1.fail.2; clear ho hl))
  go_ret
  exact ⟨rfl, HL.out.set⟩

set_option maxHeartbeats 1600000 in
set_option maxRecDepth 100000 in
theorem num_wide (w0 w : World) (g : Nat) (x : Int) (r : List Int) (h : RfO w0 w g (some (x :: r))) (hB : Below w0.heap.size w0 w) (hx : 8 < x) :
    Calls Try.prog 123 #[.pointer (some ⟨g, 0, none⟩)] w fun e w' => e = .returned (.int .u64 0) ∧ Left w0 w w' g none := by
  have HS := Aside0.mk h
  have HB := Aside0.mk hB
  have E1 := Aside0.mk (take1_cons x r)
  have hd : decide (8 < x) = true := decide_eq_true hx
  clear h hB hx
  go_enter Try.func123, Try.ntmps123
  go_wp2_with (first
    | (go_at_call 122; refine (takeO_ _ _ _ _ _ HS.out HB.out).mono ?_; rintro e w1 ⟨v, rfl, ho, hl⟩; rw [E1.out] at ho hl; have HL := Aside0.mk hl; have hc1 : w1.cell? ⟨g, 1, none⟩ = some (.bool false) := hl.1.fail.1; have hf1 := hl.1.fail.2; obtain ⟨A, c, rfl, hlc, hrd⟩ := Ob.reads ho; obtain ⟨ad, rfl, hc0⟩ := Rb.at0 hrd; clear ho hl hrd hlc))
  go_ret
  exact ⟨rfl, HL.out.set⟩

set_option maxHeartbeats 1600000 in
set_option maxRecDepth 100000 in
theorem num_short (w0 w : World) (g : Nat) (x : Int) (r : List Int) (h : RfO w0 w g (some (x :: r))) (hB : Below w0.heap.size w0 w) (hx0 : 0 ≤ x) (hx : x ≤ 8) (hl : (r.length : Int) < x) :
    Calls Try.prog 123 #[.pointer (some ⟨g, 0, none⟩)] w fun e w' => e = .returned (.int .u64 0) ∧ Left w0 w w' g none := by
  have HS := Aside0.mk h
  have HB := Aside0.mk hB
  have E1 := Aside0.mk (take1_cons x r)
  have E2 := Aside0.mk (show takeO (some r) x = ([], none) by simp only [takeO]; rw [if_neg (by omega)])
  have hd : decide (8 < x) = false := decide_eq_false (by omega)
  clear h hB hl
  go_enter Try.func123, Try.ntmps123
  go_wp2_with (fail)
  refine (takeO_ _ _ _ _ _ HS.out HB.out).mono ?_; rintro e w1 ⟨v, rfl, ho, hl⟩; rw [E1.out] at ho hl; have HL := Aside0.mk hl; have hc1 : w1.cell? ⟨g, 1, none⟩ = some (.bool false) := hl.1.fail.1; obtain ⟨A, c, rfl, hlc, hrd⟩ := Ob.reads ho; obtain ⟨ad, rfl, hc0⟩ := Rb.at0 hrd; clear ho hl hrd hlc
  go_wp2_with (fail)
  refine (takeO_ _ _ _ _ _ HL.out.1 HL.out.2.1).mono ?_; rintro e w2 ⟨v, rfl, ho, hl⟩; rw [E2.out] at ho hl; have HL2 := Aside0.mk (HL.out.trans hl); have hc2 : w2.cell? ⟨g, 1, none⟩ = some (.bool true) := hl.1.fail.1; have hf2 := hl.1.fail.2; clear HL ho hl hc1 hc0
  go_wp2
  go_ret
  exact ⟨rfl, HL2.out.set⟩

set_option maxHeartbeats 1600000 in
set_option maxRecDepth 100000 in
theorem num_zero (w0 w : World) (g : Nat) (x y : Int) (r : List Int) (h : RfO w0 w g (some (x :: y :: r))) (hB : Below w0.heap.size w0 w) (hx0 : 0 < x) (hx : x ≤ 8) (hl : x ≤ (r.length : Int) + 1) (hy : y = 0) :
    Calls Try.prog 123 #[.pointer (some ⟨g, 0, none⟩)] w fun e w' => e = .returned (.int .u64 0) ∧ Left w0 w w' g none := by
  subst hy
  have HS := Aside0.mk h
  have HB := Aside0.mk hB
  have E1 := Aside0.mk (take1_cons x (0 :: r))
  have E2 := Aside0.mk (show takeO (some (0 :: r)) x = (0 :: r.take (x.toNat - 1), some ((0 :: r).drop x.toNat)) by
    simp only [takeO]
    rw [if_pos (by rw [List.length_cons]; omega)]
    obtain ⟨m, hm⟩ : ∃ m, x.toNat = m + 1 := ⟨x.toNat - 1, by omega⟩
    rw [hm]; rfl)
  have hd : decide (8 < x) = false := decide_eq_false (by omega)
  clear h hB hl
  go_enter Try.func123, Try.ntmps123
  go_wp2_with (fail)
  refine (takeO_ _ _ _ _ _ HS.out HB.out).mono ?_; rintro e w1 ⟨v, rfl, ho, hl⟩; rw [E1.out] at ho hl; have HL := Aside0.mk hl; have hc1 : w1.cell? ⟨g, 1, none⟩ = some (.bool false) := hl.1.fail.1; obtain ⟨A, c, rfl, hlc, hrd⟩ := Ob.reads ho; obtain ⟨ad, rfl, hc0⟩ := Rb.at0 hrd; clear ho hl hrd hlc
  go_wp2_with (fail)
  refine (takeO_ _ _ _ _ _ HL.out.1 HL.out.2.1).mono ?_; rintro e w2 ⟨v, rfl, ho, hl⟩; rw [E2.out] at ho hl; have HL2 := Aside0.mk (HL.out.trans hl); have hc3 : w2.cell? ⟨g, 1, none⟩ = some (.bool false) := hl.1.fail.1; have hf3 := hl.1.fail.2; obtain ⟨A2, c2, rfl, hlc, hrd⟩ := Ob.reads ho; obtain ⟨ad2, rfl, hc2⟩ := Rb.at0 hrd; clear HL ho hl hlc hrd hc1 hc0
  have hl0 : decide (0 < (0 :: r.take (x.toNat - 1)).length) = true := decide_eq_true (by simp)
  generalize (0 :: r.take (x.toNat - 1)).length = nn at hl0 ⊢
  have hl2 : 0 < nn := of_decide_eq_true hl0
  have hl1 : decide (0 < (nn : Int)) = true := decide_eq_true (by omega)
  go_wp2
  go_ret
  exact ⟨rfl, HL2.out.set⟩

set_option maxHeartbeats 3200000 in
set_option maxRecDepth 100000 in
theorem num_good (w0 w : World) (g : Nat) (x : Int) (r : List Int) (h : RfO w0 w g (some (x :: r))) (hB : Below w0.heap.size w0 w) (hx0 : 0 ≤ x) (hx : x ≤ 8) (hl : x ≤ (r.length : Int)) (hy : ¬ (0 < x ∧ r.getD 0 0 = 0)) :
    Calls Try.prog 123 #[.pointer (some ⟨g, 0, none⟩)] w fun e w' => e = .returned (.int .u64 (valueB (r.take x.toNat))) ∧ Left w0 w w' g (some (r.drop x.toNat)) := by
  have HS := Aside0.mk h
  have HB := Aside0.mk hB
  have HU := Aside0.mk ((h.u8.1.tail).take x.toNat)
  have E1 := Aside0.mk (take1_cons x r)
  have E2 := Aside0.mk (show takeO (some r) x = (r.take x.toNat, some (r.drop x.toNat)) by simp only [takeO]; rw [if_pos ⟨hx0, hl⟩])
  obtain ⟨l, hL⟩ : ∃ l, l = r.take x.toNat := ⟨_, rfl⟩
  have hlen : l.length = x.toNat := by rw [hL, List.length_take]; omega
  have hb : (decide (0 < l.length) && (rd l 0 == 0)) = false := by
    rw [Bool.and_eq_false_iff]
    by_cases h0 : 0 < x
    · right
      rw [beq_eq_false_iff_ne]
      intro e
      apply hy
      refine ⟨h0, ?_⟩
      rw [hL] at e
      obtain ⟨m, hm⟩ : ∃ m, x.toNat = m + 1 := ⟨x.toNat - 1, by omega⟩
      cases r with
      | nil => simp at hl; omega
      | cons y r => simpa [rd, hm] using e
    · left
      exact decide_eq_false (by omega)
  rw [← hL] at HU E2 ⊢
  have H8 := Aside0.mk (show l.length ≤ 8 by omega)
  have hd : decide (8 < x) = false := decide_eq_false (by omega)
  clear h hB hl hy hL hlen
  go_enter Try.func123, Try.ntmps123
  go_wp2_with (fail)
  refine (takeO_ _ _ _ _ _ HS.out HB.out).mono ?_; rintro e w1 ⟨v, rfl, ho, hl⟩; rw [E1.out] at ho hl; have HL := Aside0.mk hl; have hc1 : w1.cell? ⟨g, 1, none⟩ = some (.bool false) := hl.1.fail.1; obtain ⟨A, c, rfl, hlc, hrd⟩ := Ob.reads ho; obtain ⟨ad, rfl, hc0⟩ := Rb.at0 hrd; clear ho hl hrd hlc
  go_wp2_with (fail)
  refine (takeO_ _ _ _ _ _ HL.out.1 HL.out.2.1).mono ?_; rintro e w2 ⟨v, rfl, ho, hl⟩; rw [E2.out] at ho hl; have HL2 := Aside0.mk (HL.out.trans hl); have hc3 : w2.cell? ⟨g, 1, none⟩ = some (.bool false) := hl.1.fail.1; obtain ⟨A2, c2, rfl, hlc, hrd⟩ := Ob.reads ho; have HRD := Aside0.mk hrd; have HLC := Aside0.mk hlc; clear HL ho hl hlc hrd hx0 hc1 hc0
  by_cases hz : 0 < l.length
  · have hzi : (0 : Int) < (l.length : Int) := by omega
    obtain ⟨ad2, hA2, hc2⟩ := Kd.at_int HRD.out 0 (Int.le_refl _) hzi
    subst hA2
    have hz0 : decide (0 < l.length) = true := decide_eq_true hz
    have hz1 : decide (0 < (l.length : Int)) = true := decide_eq_true (by omega)
    have hb1 : (rd l 0 == 0) = false := by rw [hz0, Bool.true_and] at hb; exact hb
    have hc5 : w2.cell? ad2 = some (.int .u8 (rd l 0)) := by simpa [Addr.add] using hc2
    clear hb hc2
    go_wp2_with (go_at_call 124; refine (value_c _ c2 l _ HRD.out HLC.out HU.out H8.out).mono ?_; rintro e w' ⟨rfl, ⟨m1, rfl⟩⟩)
    go_ret
    exact ⟨rfl, HL2.out.1.below (Drawn0.mk ⟨m1, rfl⟩).below, pw_below_drewN HL2.out.2.1 m1, keep_drewN HL2.out.2.2 m1⟩
  · have hz0 : decide (0 < l.length) = false := decide_eq_false hz
    have hl0 : l = [] := List.length_eq_zero_iff.1 (by omega)
    subst hl0
    clear hb hz hz0
    have hf0 : decide ((0 : Int) < 0) = false := rfl
    go_wp2_with (go_at_call 124; refine (value_c A2 c2 [] _ HRD.out HLC.out HU.out H8.out).mono ?_; rintro e w' ⟨rfl, ⟨m1, rfl⟩⟩)
    go_ret
    exact ⟨rfl, HL2.out.1.below (Drawn0.mk ⟨m1, rfl⟩).below, pw_below_drewN HL2.out.2.1 m1, keep_drewN HL2.out.2.2 m1⟩

theorem numO_ (w0 w : World) (g : Nat) (st : Option (List Int)) (h : RfO w0 w g st) (hB : Below w0.heap.size w0 w) :
    Calls Try.prog 123 #[.pointer (some ⟨g, 0, none⟩)] w fun e w' => e = .returned (.int .u64 (numO st).1) ∧ Left w0 w w' g (numO st).2 := by
  match st, h with
  | none, h => exact num_none w0 w g none h hB rfl
  | some [], h => exact num_none w0 w g (some []) h hB rfl
  | some (x :: r), h =>
    have hx0 := h.u8.1.head.1
    simp only [numO]
    by_cases h1 : x > 8
    · rw [if_pos h1]; exact num_wide w0 w g x r h hB h1
    · rw [if_neg h1]
      by_cases h2 : (r.length : Int) < x
      · rw [if_pos h2]; exact num_short w0 w g x r h hB hx0 (by omega) h2
      · rw [if_neg h2]
        by_cases h3 : 0 < x ∧ r.getD 0 0 = 0
        · rw [if_pos h3]
          cases r with
          | nil => simp at h2; omega
          | cons y r => exact num_zero w0 w g x y r h hB h3.1 (by omega) (by simp at h2; omega) (by simpa using h3.2)
        · rw [if_neg h3]; exact num_good w0 w g x r h hB hx0 (by omega) (by omega) h3

set_option maxHeartbeats 1600000 in
set_option maxRecDepth 100000 in
theorem countO_ (w0 w : World) (g : Nat) (st : Option (List Int)) (most : Int) (h : RfO w0 w g st) (hB : Below w0.heap.size w0 w) (hm : most ≤ 9223372036854775807) :
    Calls Try.prog 95 #[.pointer (some ⟨g, 0, none⟩), .int .i64 most] w fun e w' => e = .returned (.int .i64 (countO st most).1) ∧ Left w0 w w' g (countO st most).2 := by
  have HS := Aside0.mk h
  have HB := Aside0.mk hB
  have hr := numO_range (st := st) (fun bs e => by subst e; exact h.u8.1)
  unfold countO
  obtain ⟨nv, hnv⟩ : ∃ nv, nv = (numO st).1 := ⟨_, rfl⟩
  rw [← hnv] at hr ⊢
  have HN := Aside0.mk hnv
  have HR := Aside0.mk hr
  have HM := Aside0.mk hm
  clear hm
  clear hr hnv h hB
  by_cases h1 : most < 0
  · rw [if_pos (Or.inl h1)]
    have hd : decide (most < 0) = true := decide_eq_true h1
    clear h1
    go_enter Try.func95, Try.ntmps95
    go_wp2_with (go_at_call 123; refine (numO_ _ _ _ _ HS.out HB.out).mono ?_; rintro e w1 ⟨rfl, hl⟩; rw [← HN.out]; have HL := Aside0.mk hl; obtain ⟨hc1, hf1⟩ := hl.1.fail; clear hl)
    go_ret
    exact ⟨rfl, HL.out.set⟩
  · have hd : decide (most < 0) = false := decide_eq_false h1
    have hw : IntKind.u64.wrap most = most := IntWalk.u64_in _ (by have := HM.out; omega)
    by_cases h2 : nv > most
    · rw [if_pos (Or.inr h2)]
      have hd2 : decide (most < nv) = true := decide_eq_true h2
      clear h1 h2
      go_enter Try.func95, Try.ntmps95
      go_wp2_with (go_at_call 123; refine (numO_ _ _ _ _ HS.out HB.out).mono ?_; rintro e w1 ⟨rfl, hl⟩; rw [← HN.out]; have HL := Aside0.mk hl; obtain ⟨hc1, hf1⟩ := hl.1.fail; clear hl)
      go_ret
      exact ⟨rfl, HL.out.set⟩
    · rw [if_neg (by omega)]
      have hd2 : decide (most < nv) = false := decide_eq_false h2
      have hv : wrap64 nv = nv := IntWalk.wrap64_in _ (by have := HM.out; have := HR.out; omega)
      clear h1 h2
      go_enter Try.func95, Try.ntmps95
      go_wp2_with (go_at_call 123; refine (numO_ _ _ _ _ HS.out HB.out).mono ?_; rintro e w1 ⟨rfl, hl⟩; rw [← HN.out]; have HL := Aside0.mk hl; clear hl)
      go_ret
      exact ⟨by rw [← HN.out, hv]; rfl, HL.out⟩

set_option maxHeartbeats 800000 in
theorem textO_ (w0 w : World) (g : Nat) (st : Option (List Int)) (most : Int) (h : RfO w0 w g st) (hB : Below w0.heap.size w0 w) (hm : most ≤ 9223372036854775807) :
    Calls Try.prog 94 #[.pointer (some ⟨g, 0, none⟩), .int .i64 most] w fun e w' => ∃ v, e = .returned v ∧ Ob w' w.heap.size v (textO st most).1 ∧ Left w0 w w' g (textO st most).2 := by
  have HS := Aside0.mk h
  have HB := Aside0.mk hB
  have HM := Aside0.mk hm
  clear hm h hB
  go_enter Try.func94, Try.ntmps94
  go_wp2_with (first
    | (go_at_call 95; refine (countO_ _ _ _ _ _ HS.out HB.out HM.out).mono ?_; rintro e w1 ⟨rfl, hl⟩; have HL := Aside0.mk hl; clear hl)
    | (go_at_call 122; refine (takeO_ _ _ _ _ _ HL.out.1 HL.out.2.1).mono ?_; rintro e w2 ⟨v, rfl, ho, hl⟩; have HO := Aside0.mk ho; have HT := Aside0.mk hl; clear hl ho))
  go_ret
  exact ⟨_, rfl, Kd.R_lower HO.out HL.out.2.2.1, HL.out.trans HT.out⟩
end Go.Proofs.Ytgdpabedlghiaaa.Rf
/- hanaperref12.Get: which inode bytes are. -/
namespace Go.Proofs.Ytgdpabedlghiaaa.InodeRget
open Go.Proofs.Ytgdpabedlghiaaa Go.Proofs.Ytgdpabedlghiaaa.Lo Go.RowKit Go.Proofs.Ytgdpabedlghiaaa.RdPlain Go.Proofs.Ytgdpabedlghiaaa.Base Go.Proofs.Ytgdpabedlghiaaa.TlvPlain Go.Proofs.Ytgdpabedlghiaaa.Rf Go.Proofs.Ytgdpabedlghiaaa.Name Go.Proofs.Ytgdpabedlghiaaa.InodeEv Go.Proofs.Ytgdpabedlghiaaa.InodePut Go.Proofs.Ytgdpabedlghiaaa.InodeLive Go.Proofs.Ytgdpabedlghiaaa.InodeBk Go.Proofs.Ytgdpabedlghiaaa.AllocEv Go.Proofs.Ytgdpabedlghiaaa.Aid Go.Proofs.Ytgdpabedlghiaaa.PZ Go.Proofs.YtgdpabedlghiaaaW.PrintWords Go.Proofs.YtgdpabedlghiaaaW.PrintLast Go.Proofs.YtgdpabedlghiaaaW.PrintMore

/-- A block that was laid just ahead of a reader's call lies there behind it. -/
theorem new_kept {w0 W W1 : World} {g : Nat} {st : Option (List Int)} {cs : Array Value} {T : Nat} (h : Rf.Left w0 (W.alloc (.cells cs T)) W1 g st) (hne : W.heap.size ≠ g) : W1.heap[W.heap.size]? = some (.cells cs T (0, 0)) :=
  h.2.2.blk (blk_new W (.cells cs T)) hne (by simp)
/-- A row that was read ahead of a reader's call is read behind it. -/
theorem row_kept {w0 W W1 : World} {g : Nat} {st st1 : Option (List Int)} {A : Option Addr} {xs : List Int} (hr : Rb W A xs) (hS : Rf.RfO w0 W g st) (h : Rf.Left w0 W W1 g st1) : Kd.C (Kd.int .u8) W1 A xs.length xs := by
  obtain ⟨_, _, cs, hb, hcs⟩ := hS.blk
  exact reads_keep hr h.2.2 (reads_ne hb hcs hr)
/-- The cells of an inode's block. -/
def BlkI (w : World) (g : Nat) (nm : ByteArray) (z : Int) (v : Value) : Prop := w.heap[g]? = some (.cells #[.string nm, .int .i64 z, v] 24 (0, 0))
theorem blki_new (w : World) (nm : ByteArray) (z : Int) (v : Value) : BlkI (w.alloc (.cells #[.string nm, .int .i64 z, v] 24)) w.heap.size nm z v := blk_new _ _
theorem blki_set {w : World} {g : Nat} {nm nm' : ByteArray} {z z' : Int} {v v' : Value} (h : BlkI w g nm z v) : BlkI (((w.setCell ⟨g, 0, none⟩ (.string nm')).setCell ⟨g, 1, none⟩ (.int .i64 z')).setCell ⟨g, 2, none⟩ v') g nm' z' v' := by
  have h1 := blk_set h 0 (.string nm')
  have h2 := blk_set h1 1 (.int .i64 z')
  have h3 := blk_set h2 2 v'
  simpa [BlkI] using h3
theorem blki_keep {w w' : World} {g g' : Nat} {nm : ByteArray} {z : Int} {v : Value} (h : BlkI w g nm z v) (hk : KeepBut w w' g' none) (hne : g ≠ g') : BlkI w' g nm z v := hk.blk h hne (by simp)
theorem blki_below {w w' : World} {g : Nat} {nm : ByteArray} {z : Int} {v : Value} (h : BlkI w g nm z v) (hb : Below w.heap.size w w') : BlkI w' g nm z v := blk_below h hb
theorem blki_lt {w : World} {g : Nat} {nm : ByteArray} {z : Int} {v : Value} (h : BlkI w g nm z v) : g < w.heap.size := blk_lt h
theorem keep_set3 {w w' : World} {g : Nat} (h : KeepBut w w' g none) (a b c : Value) {q : Nat} (hq : w.heap.size ≤ q) : KeepBut w (((w'.setCell ⟨q, 0, none⟩ a).setCell ⟨q, 1, none⟩ b).setCell ⟨q, 2, none⟩ c) g none := keep_far (keep_far (keep_far h hq _) hq _) hq _
theorem left_alloc {w W W1 : World} {g : Nat} {st : Option (List Int)} (h : Rf.Left w W W1 g st) (o : Obj) : Rf.Left w W (W1.alloc o) g st := ⟨h.1.below (below_alloc (Below.refl _ _) _), below_alloc h.2.1 _, keep_alloc h.2.2 _⟩
def getR (t : List Int) (z n : Int) : Option (List Int) → (ByteArray × Int × List Int) × Int
  | none => ((⟨#[]⟩, 0, []), 2)
  | some rest => if (listSpec rest n).2 = true ∧ mayB (strOfNums t) z (listSpec rest n).1 n = true then ((strOfNums t, z, (listSpec rest n).1), 0) else ((⟨#[]⟩, 0, []), 2)
theorem may_n {nm : ByteArray} {z : Int} {l : List Int} {n : Int} (h : ¬ (0 ≤ n ∧ n ≤ 1024)) : mayB nm z l n = false := by
  cases e : mayB nm z l n with
  | false => rfl
  | true => have := may_parts e; exact absurd ⟨this.2.2.2.1, this.2.2.2.2.1⟩ h
theorem getR_some (t : List Int) (z n : Int) (rest : List Int) : getR t z n (some rest) = if (listSpec rest n).2 = true ∧ mayB (strOfNums t) z (listSpec rest n).1 n = true then ((strOfNums t, z, (listSpec rest n).1), 0) else ((⟨#[]⟩, 0, []), 2) := rfl
theorem getS_of {b : List Int} (n : Int) {t : List Int} {s1 s2 : Option (List Int)} {z : Int} (h1 : textO (some b) 16 = (t, s1)) (h2 : countO s1 24576 = (z, s2)) : getS b n = getR t z n s2 := by
  unfold getS
  rw [h1]
  dsimp only
  rw [h2]
  cases s2 <;> rfl
/-- What stands behind region 2: the inode's block, and the reader. -/
def Rel (w W wx : World) (g g7 : Nat) (nm : ByteArray) (z : Int) (st : Option (List Int)) : Prop :=
  W.heap.size ≤ g7 ∧ BlkI wx g7 nm z (.slice none 0 0) ∧ Rf.RfO w wx g st ∧ Below w.heap.size w wx ∧ KeepBut W wx g none
theorem bytes_no (nm : ByteArray) (z : Int) (v : Value) (hv : ∀ n, v ≠ Value.int .u8 n) (i : Nat) (u : Value) (h : (#[.string nm, .int .i64 z, v] : Array Value)[i]? = some u) (n : Int) : u ≠ .int .u8 n := by
  match i, h with
  | 0, h => cases h; simp
  | 1, h => cases h; simp
  | 2, h => cases h; exact hv n
theorem rdo_set {w W : World} {g q : Nat} {st : Option (List Int)} {nm nm' : ByteArray} {z z' : Int} {v v' : Value} (h : Rf.RfO w W g st) (hq : BlkI W q nm z v) (hne : g ≠ q) (hv : ∀ n, v ≠ Value.int .u8 n) : Rf.RfO w (((W.setCell ⟨q, 0, none⟩ (.string nm')).setCell ⟨q, 1, none⟩ (.int .i64 z')).setCell ⟨q, 2, none⟩ v') g st :=
  h.keep (((KeepBut.refl W q none).set_ 0 _).set_ 1 _ |>.set_ 2 _) hne hq (bytes_no nm z v hv)
theorem rel_a {w W w5 : World} {g : Nat} {nm : ByteArray} {z : Int} {st : Option (List Int)} (h : Rf.Left w W w5 g st) : Rel w W (w5.alloc (.cells #[.string nm, .int .i64 z, .slice none 0 0] 24)) g w5.heap.size nm z st :=
  ⟨h.2.2.1, blki_new _ _ _ _, h.1.below (below_alloc (Below.refl _ _) _), below_alloc h.2.1 _, keep_alloc h.2.2 _⟩
theorem rel_b {w W w5 : World} {g q : Nat} {nm nm0 : ByteArray} {z z0 : Int} {st : Option (List Int)} (h : Rf.Left w W w5 g st) (hq : BlkI w5 q nm0 z0 (.slice none 0 0)) (hw : w.heap.size ≤ q) (hW : W.heap.size ≤ q) (hg : g < W.heap.size) :
    Rel w W (((w5.setCell ⟨q, 0, none⟩ (.string nm)).setCell ⟨q, 1, none⟩ (.int .i64 z)).setCell ⟨q, 2, none⟩ (.slice none 0 0)) g q nm z st :=
  ⟨hW, blki_set hq, rdo_set h.1 hq (by omega) (by simp), below_set (below_set (below_set h.2.1 hw) hw) hw, keep_set3 h.2.2 _ _ _ hW⟩
set_option maxHeartbeats 2000000 in
set_option maxRecDepth 100000 in
theorem get_c (w : World) (A : Option Addr) (c : Nat) (b : List Int) (n : Int) (hr : Rb w A b) (hc : b.length ≤ c) (hl : b.length ≤ 1000) (hu : U8 b) :
    Calls Try.prog 44 #[.slice A b.length c, .int .i64 n] w fun e w' => ∃ v, e = .returned (.tuple #[.agg #[.string (getS b n).1.1, .int .i64 (getS b n).1.2.1, v], .int .i64 (getS b n).2]) ∧ Kd.R (Kd.int .i64) 3 w' w.heap.size (fun _ => True) v (getS b n).1.2.2 ∧ Below w.heap.size w w' := by
  have HR := Aside0.mk hr
  have HC := Aside0.mk hc
  have HL := Aside0.mk hl
  have HU := Aside0.mk hu
  have HB := Aside0.mk (below_alloc (Below.refl w.heap.size w) (.cells #[.string ⟨#[]⟩, .int .i64 0, .slice none 0 0] 24))
  have H0 := Aside0.mk (blki_new w ⟨#[]⟩ 0 (.slice none 0 0))
  clear hr hc hl hu
  go_enter Try.func44, Try.ntmps44
  go_wp2_with (fail)
  refine (copy_c A c b _ (Kd.C_below HR.out HB.out) HC.out (by have := HL.out; omega)).mono ?_
  rintro e w0 ⟨v, rfl, ho, hb⟩
  obtain ⟨A5, c5, rfl, hl5, hr5⟩ := Ob.reads ho
  have H1' := Aside0.mk (blki_below H0.out hb)
  have n1_ := Aside0.mk (below_step HB.out hb); clear HB; have HB := n1_; clear n1_
  have HR5 := Aside0.mk hr5
  have HL5 := Aside0.mk hl5
  clear hb ho hr5 hl5
  go_upto_region 2 with (fail)
  obtain ⟨w1, hw1⟩ : ∃ x, w0.alloc (.cells #[.slice A5 b.length c5, .bool false] 115) = x := ⟨_, rfl⟩
  obtain ⟨g, hg⟩ : ∃ x, w0.heap.size = x := ⟨_, rfl⟩
  have HG := Aside0.mk (show w.heap.size + 1 ≤ g by have := HB.out.size; have := blki_lt H1'.out; omega)
  have HS := Aside0.mk (show Rf.RfO w w1 g (some b) by
    rw [← hw1, ← hg]
    exact ⟨HB.out.size, A5, c5, blk_new _ _, HL5.out, Kd.C_alloc HR5.out _, by have := HL.out; omega, HU.out⟩)
  have HBn := Aside0.mk (show Below w.heap.size w w1 by rw [← hw1]; exact below_alloc HB.out _)
  have H1 := Aside0.mk (show BlkI w1 w.heap.size ⟨#[]⟩ 0 (.slice none 0 0) by rw [← hw1]; exact blk_alloc H1'.out _)
  rw [hw1, hg]
  clear hw1 hg HB H1' HR5 HL5 H0
  have HB := HBn
  clear HBn
  have HS1 := Aside0.mk (HS.out.below (below_drew1 (Below.refl _ _)))
  have HB1 := Aside0.mk (below_drew1 HB.out)
  go_cut [7] (fun s7 wx => ∃ g7, s7 = .pointer (some ⟨g7, 0, none⟩) ∧ Rel w w1.drew wx g g7 (strOfNums (textO (some b) 16).1) (countO (textO (some b) 16).2 24576).1 (countO (textO (some b) 16).2 24576).2)
  case first =>
    -- {{
    go_region_law (first
      | (go_simp; go_at_call 94; refine (textO_ w _ g (some b) 16 (Rf.RfO.below HS1.out (by first | exact Below.refl _ _ | exact below_alloc (Below.refl _ _) _)) (by first | exact HB1.out | exact below_alloc HB1.out _) (by omega)).mono ?_; rintro e w4 ⟨v, rfl, ho, hl⟩; have hcv := own_string (P := Try.prog) Try.underlying27 Try.underlying5 Try.underlying9 (Kd.own_of_R ho); obtain ⟨A5, c5, rfl, hl5, hr5⟩ := Ob.reads ho; have HR5 := Aside0.mk hr5; have hcw := (fun o : Obj => Kd.C_string (P := Try.prog) (c := c5) Try.underlying27 Try.underlying5 Try.underlying9 (Kd.C_alloc HR5.out o)); have HL := Aside0.mk hl; (try (have kk := new_kept hl (by have := HS1.out.blk; simp at this ⊢; omega); have KK := Aside0.mk kk; clear kk)); clear ho hl hl5 hr5)
      | (go_simp; go_at_call 95; refine (countO_ w _ g (textO (some b) 16).2 24576 (by first | exact HL.out.1 | exact Rf.RfO.below HL.out.1 (below_alloc (Below.refl _ _) _)) (by first | exact HL.out.2.1 | exact below_alloc HL.out.2.1 _) (by omega)).mono ?_; rintro e w5 ⟨rfl, hl⟩; have HL5 := Aside0.mk hl; have hcv2 := Kd.C_string (P := Try.prog) (c := c5) Try.underlying27 Try.underlying5 Try.underlying9 (row_kept (by first | exact HR5.out | exact Kd.C_alloc HR5.out _) (by first | exact HL.out.1 | exact Rf.RfO.below HL.out.1 (below_alloc (Below.refl _ _) _)) hl); have hcw2 := (fun o : Obj => Kd.C_string (P := Try.prog) (c := c5) Try.underlying27 Try.underlying5 Try.underlying9 (Kd.C_alloc (row_kept (by first | exact HR5.out | exact Kd.C_alloc HR5.out _) (by first | exact HL.out.1 | exact Rf.RfO.below HL.out.1 (below_alloc (Below.refl _ _) _)) hl) o)); (try (have kk := hl.2.2.blk KK.out (by have := HS1.out.blk; simp at this ⊢; omega) (by simp); have z0 := blk_cell kk 0; have z1 := blk_cell kk 1; have z2 := blk_cell kk 2; have y0 := blk_frozen kk 0; have y1 := blk_frozen kk 1; have y2 := blk_frozen kk 2)); (try (have kk := new_kept hl (by have := HL.out.1.blk; simp; omega); have z0 := blk_cell kk 0; have z1 := blk_cell kk 1; have z2 := blk_cell kk 2; have y0 := blk_frozen kk 0; have y1 := blk_frozen kk 1; have y2 := blk_frozen kk 2)); clear hl))
    all_goals
      go_wp2_with (fail)
      go_meet
      case rel => first
        | exact ⟨_, rfl, rel_a (HL.out.trans HL5.out)⟩
        | exact ⟨_, rfl, rel_b ((left_alloc HL.out _).trans HL5.out) kk (by have := HB1.out.size; have := HL.out.2.2.1; omega) (by have := HL.out.2.2.1; omega) (HS1.out.blk.2.1)⟩
        | exact ⟨_, rfl, rel_b ((left_alloc (show Rf.Left w w1.drew w1.drew g (some b) from ⟨HS1.out, HB1.out, KeepBut.refl _ _ _⟩) _).trans (HL.out.trans HL5.out)) kk (by have := HB1.out.size; simpa using this) (Nat.le_refl _) (HS1.out.blk.2.1)⟩
    -- }}
  case rest =>
    obtain ⟨g7, rfl, h7, hb7, hs7, hbel, hkp⟩ := hcut
    have H0c := Aside0.mk (blki_keep (blki_below H1.out (below_drew1 (Below.refl _ _))) hkp (by have := HG.out; omega))
    have H7 := Aside0.mk hb7
    have HN7 := Aside0.mk (show w.heap.size < g7 ∧ g7 ≠ g by have := hs7.blk.1; have := HS1.out.blk.2.1; have := HG.out; exact ⟨by omega, by omega⟩)
    have HSc := Aside0.mk hs7
    have HBc := Aside0.mk hbel
    clear h7 hb7 hs7 hbel hkp HS1 HB1 HS HB H1
    obtain ⟨t, s1, ht⟩ : ∃ t s1, textO (some b) 16 = (t, s1) := ⟨_, _, rfl⟩
    rw [ht] at H7 HSc
    obtain ⟨z, s2, hz⟩ : ∃ z s2, countO s1 24576 = (z, s2) := ⟨_, _, rfl⟩
    dsimp only at H7 HSc
    rw [hz] at H7 HSc
    dsimp only at H7 HSc
    have HGS := Aside0.mk (getS_of n ht hz)
    have HU2 := Aside0.mk (fun rest (e : s2 = some rest) => (show U8 rest ∧ rest.length ≤ b.length from by
      subst e
      cases s1 with
      | none => rw [count_none] at hz; cases hz
      | some s1 =>
        obtain ⟨e1, _⟩ := text_back HU.out ht
        obtain ⟨u1, u2⟩ := textO_u8' HU.out ht
        obtain ⟨e2, _⟩ := count_back u2 hz
        refine ⟨countO_u8' u2 hz, ?_⟩
        rw [e1, e2, List.length_append, List.length_append]; omega))
    have HTL := Aside0.mk (show t.length ≤ 1000 by
      cases s1 with
      | none => rw [text_fail ht]; simp
      | some s1 => have := (text_back HU.out ht).2; omega)
    clear ht hz
    cases s2 with
    | none =>
      have z0 := blk_cell H0c.out 0; have z1 := blk_cell H0c.out 1; have z2 := blk_cell H0c.out 2; have y0 := blk_frozen H0c.out 0; have y1 := blk_frozen H0c.out 1; have y2 := blk_frozen H0c.out 2
      have hf := HSc.out.fail.1
      dsimp only [Option.isSome, Bool.not_false] at hf
      go_wp2_with (fail)
      refine bodyPost_ret (results_ct rfl _ _ w.heap.size 24 #[.string ⟨#[]⟩, .int .i64 0, .slice none 0 0] (0, 0) _ rfl (blki_set H0c.out) Try.underlying24 rfl (by kernel_rfl)) rfl ?_
      rw [HGS.out]
      exact ⟨_, rfl, Kd.R_nil _ _ _ _ _, below_set (below_set (below_set HBc.out (Nat.le_refl _)) (Nat.le_refl _)) (Nat.le_refl _)⟩
    | some rest =>
      obtain ⟨hu, hl⟩ := HU2.out rest rfl
      obtain ⟨l, ok, hlo⟩ : ∃ l ok, listSpec rest n = (l, ok) := ⟨_, _, rfl⟩
      have HLO := Aside0.mk hlo
      have hle := list_doc_ev rest n hu (by have := HL.out; omega)
      rw [hlo] at hle
      obtain ⟨kl, hkl⟩ := hle.rounds
      have HKL := Aside0.mk hkl
      have HU3 := Aside0.mk hu
      have HLR := Aside0.mk (show rest.length ≤ 1000 by have := HL.out; omega)
      clear HU2 hu hl hkl hle hlo
      by_cases c1 : n < 0
      · have d1 : decide (n < 0) = true := decide_eq_true c1
        have HN := Aside0.mk (show ¬ (0 ≤ n ∧ n ≤ 1024) by omega)
        clear c1
        have hf := HSc.out.fail.1
        dsimp only [Option.isSome, Bool.not_true] at hf
        have z0 := blk_cell H0c.out 0; have z1 := blk_cell H0c.out 1; have z2 := blk_cell H0c.out 2; have y0 := blk_frozen H0c.out 0; have y1 := blk_frozen H0c.out 1; have y2 := blk_frozen H0c.out 2
        go_wp2_with (fail)
        refine bodyPost_ret (results_ct rfl _ _ w.heap.size 24 #[.string ⟨#[]⟩, .int .i64 0, .slice none 0 0] (0, 0) _ rfl (blki_set H0c.out) Try.underlying24 rfl (by kernel_rfl)) rfl ?_
        rw [HGS.out]
        rw [getR_some, if_neg (fun h => by rw [may_n HN.out] at h; simp at h)]
        exact ⟨_, rfl, Kd.R_nil _ _ _ _ _, below_set (below_set (below_set HBc.out (Nat.le_refl _)) (Nat.le_refl _)) (Nat.le_refl _)⟩
      by_cases c2 : 1024 < n
      · have d1 : decide (n < 0) = false := decide_eq_false c1
        have d2 : decide (1024 < n) = true := decide_eq_true c2
        have HN := Aside0.mk (show ¬ (0 ≤ n ∧ n ≤ 1024) by omega)
        clear c1 c2
        have hf := HSc.out.fail.1
        dsimp only [Option.isSome, Bool.not_true] at hf
        have z0 := blk_cell H0c.out 0; have z1 := blk_cell H0c.out 1; have z2 := blk_cell H0c.out 2; have y0 := blk_frozen H0c.out 0; have y1 := blk_frozen H0c.out 1; have y2 := blk_frozen H0c.out 2
        go_wp2_with (fail)
        refine bodyPost_ret (results_ct rfl _ _ w.heap.size 24 #[.string ⟨#[]⟩, .int .i64 0, .slice none 0 0] (0, 0) _ rfl (blki_set H0c.out) Try.underlying24 rfl (by kernel_rfl)) rfl ?_
        rw [HGS.out]
        rw [getR_some, if_neg (fun h => by rw [may_n HN.out] at h; simp at h)]
        exact ⟨_, rfl, Kd.R_nil _ _ _ _ _, below_set (below_set (below_set HBc.out (Nat.le_refl _)) (Nat.le_refl _)) (Nat.le_refl _)⟩
      have d1 : decide (n < 0) = false := decide_eq_false c1
      have d2 : decide (1024 < n) = false := decide_eq_false c2
      clear c1 c2
      have hf := HSc.out.fail.1
      dsimp only [Option.isSome, Bool.not_true] at hf
      obtain ⟨A5, c5, hbs, hl5, hr5⟩ := HSc.out.bytes
      have HR5 := Aside0.mk hr5
      have HL5 := Aside0.mk hl5
      clear hr5 hl5
      go_upto_region 7 with (go_at_call 96; refine (hanaperref11_List.calls kl A5 c5 rest n l ok _ HR5.out HL5.out HKL.out).mono ?_; rintro e w4 ⟨v, rfl, ho, hb⟩; obtain ⟨A6, c6, rfl, hl6, hr6⟩ := Kd.R_reads ho; have HO := Aside0.mk ho; have HL6 := Aside0.mk hl6; have H0e := Aside0.mk (blki_below H0c.out hb); have H7e := Aside0.mk (blki_below H7.out hb); have HBe := Aside0.mk (below_step HBc.out hb); have z2 := blk_cell H7e.out 2; have y2 := blk_frozen H7e.out 2; clear ho hb hl6 hr6)
      obtain ⟨w5, hw5⟩ : ∃ x, w4.setCell ⟨g7, 2, none⟩ (.slice A6 l.length c6) = x := ⟨_, rfl⟩
      have H7f := Aside0.mk (show BlkI w5 g7 (strOfNums t) z (.slice A6 l.length c6) by rw [← hw5]; have h := blk_set H7e.out 2 (.slice A6 l.length c6); simpa [BlkI] using h)
      have H0f := Aside0.mk (show BlkI w5 w.heap.size ⟨#[]⟩ 0 (.slice none 0 0) by rw [← hw5]; exact blk_far H0e.out (by have := HN7.out; dsimp only; omega) _)
      have HOf := Aside0.mk (show Kd.R (Kd.int .i64) 3 w5 wc.heap.size (fun _ => True) (.slice A6 l.length c6) l by rw [← hw5]; exact Kd.R_set HO.out H7e.out (by decide) 2 _)
      have HBf := Aside0.mk (show Below w.heap.size w w5 by rw [← hw5]; exact below_set HBe.out (Nat.le_of_lt HN7.out.1))
      have HW3 := Aside0.mk HBc.out.size
      rw [hw5]
      clear hw5 z2 y2 HO H0e H7e HBe HKL HSc H7 H0c HBc HR5 HL5 hf hbs
      have q0 := blk_cell H7f.out 0; have q1 := blk_cell H7f.out 1; have q2 := blk_cell H7f.out 2
      have HRf := Aside0.mk (Kd.R_reads' HOf.out).2.2
      have HCK := Aside0.mk (may_c (strOfNums t) z A6 c6 l n w5 HRf.out HL6.out (by have h1 := listSpec_len rest n; rw [HLO.out] at h1; have := HLR.out; dsimp only at h1; omega) (by rw [strOfNums_size]; exact HTL.out))
      cases ok with
      | false =>
        have z0 := blk_cell H0f.out 0; have z1 := blk_cell H0f.out 1; have z2 := blk_cell H0f.out 2; have y0 := blk_frozen H0f.out 0; have y1 := blk_frozen H0f.out 1; have y2 := blk_frozen H0f.out 2
        go_wp2_with (fail)
        refine bodyPost_ret (results_ct rfl _ _ w.heap.size 24 #[.string ⟨#[]⟩, .int .i64 0, .slice none 0 0] (0, 0) _ rfl (blki_set H0f.out) Try.underlying24 rfl (by kernel_rfl)) rfl ?_
        rw [HGS.out]
        rw [getR_some, HLO.out, if_neg (by simp)]
        exact ⟨_, rfl, Kd.R_nil _ _ _ _ _, below_set (below_set (below_set HBf.out (Nat.le_refl _)) (Nat.le_refl _)) (Nat.le_refl _)⟩
      | true =>
        cases hm : mayB (strOfNums t) z l n with
        | false =>
          have HM := Aside0.mk hm
          rw [hm] at HCK
          clear hm
          go_wp2_with (go_at_call 58; refine HCK.out.mono ?_; rintro e w6 ⟨rfl, hb⟩; have H0g := Aside0.mk (blki_below H0f.out hb); have HBg := Aside0.mk (below_step HBf.out hb); have z0 := blk_cell H0g.out 0; have z1 := blk_cell H0g.out 1; have z2 := blk_cell H0g.out 2; have y0 := blk_frozen H0g.out 0; have y1 := blk_frozen H0g.out 1; have y2 := blk_frozen H0g.out 2; clear hb)
          refine bodyPost_ret (results_ct rfl _ _ w.heap.size 24 #[.string ⟨#[]⟩, .int .i64 0, .slice none 0 0] (0, 0) _ rfl (blki_set H0g.out) Try.underlying24 rfl (by kernel_rfl)) rfl ?_
          rw [HGS.out]
          rw [getR_some, HLO.out, if_neg (by dsimp only; rw [HM.out]; simp)]
          exact ⟨_, rfl, Kd.R_nil _ _ _ _ _, below_set (below_set (below_set HBg.out (Nat.le_refl _)) (Nat.le_refl _)) (Nat.le_refl _)⟩
        | true =>
          have HM := Aside0.mk hm
          rw [hm] at HCK
          clear hm
          go_wp2_with (go_at_call 58; refine HCK.out.mono ?_; rintro e w6 ⟨rfl, hb⟩; have H0g := Aside0.mk (blki_below H0f.out hb); have H7g := Aside0.mk (blki_below H7f.out hb); have HOg := Aside0.mk (Kd.R_below HOf.out hb); have HBg := Aside0.mk (below_step HBf.out hb); have z0 := blk_cell H0g.out 0; have z1 := blk_cell H0g.out 1; have z2 := blk_cell H0g.out 2; have y0 := blk_frozen H0g.out 0; have y1 := blk_frozen H0g.out 1; have y2 := blk_frozen H0g.out 2; clear q0 q1 q2; have q0 := blk_cell H7g.out 0; have q1 := blk_cell H7g.out 1; have q2 := blk_cell H7g.out 2; clear hb)
          refine bodyPost_ret (results_ct rfl _ _ w.heap.size 24 #[.string (strOfNums t), .int .i64 z, .slice A6 l.length c6] (0, 0) _ rfl (blki_set H0g.out) Try.underlying24 rfl (by kernel_rfl)) rfl ?_
          rw [HGS.out]
          rw [getR_some, HLO.out, if_pos ⟨rfl, HM.out⟩]
          exact ⟨_, rfl, Kd.R_lower (Kd.R_set (Kd.R_set (Kd.R_set HOg.out H0g.out (by decide) 0 _) (blk_set H0g.out 0 _) (by decide) 1 _) (blk_set (blk_set H0g.out 0 _) 1 _) (by decide) 2 _) HW3.out, below_set (below_set (below_set HBg.out (Nat.le_refl _)) (Nat.le_refl _)) (Nat.le_refl _)⟩
end Go.Proofs.Ytgdpabedlghiaaa.InodeRget
/- inode.Put, inode.Get, the document's, and the example, in the printed functions' form. -/
namespace Go.Proofs.Ytgdpabedlghiaaa.PZ
set_option linter.unusedVariables false
open Go.RowKit Go.Proofs.YtgdpabedlghiaaaW.PrintWords Go.Proofs.Ytgdpabedlghiaaa.TlvPlain Go.Proofs.Ytgdpabedlghiaaa.InodeLive Go.Proofs.Ytgdpabedlghiaaa.InodeBk
def inodeOk (nm : ByteArray) (l : List Int) : Bool := decide (l.length ≤ 1000) && decide (nm.size ≤ 1000)
def inode_Put.f (a0_0 : ByteArray) (a0_1 : Int) (l0_2 : List Int) (a1 : Int) : Option (List Int × Int) := if inodeOk a0_0 l0_2 = true then some (putS a0_0 a0_1 l0_2 a1) else none
theorem inode_Put.calls (a0_0 : ByteArray) (a0_1 : Int) (A0_2 : Option Addr) (c0_2 : Nat) (l0_2 : List Int) (a1 : Int) (r1 : List Int) (r2 : Int) (w : World) (hr0_2 : Kd.C (Kd.int .i64) w A0_2 l0_2.length l0_2) (hc0_2 : l0_2.length ≤ c0_2) (h : inode_Put.f a0_0 a0_1 l0_2 a1 = some (r1, r2)) :
    Calls Try.prog 16 #[.agg #[.string a0_0, .int .i64 a0_1, .slice A0_2 l0_2.length c0_2], .int .i64 a1] w fun e w' => ∃ v0_ : Value, e = .returned (.tuple #[v0_, .int .i64 r2]) ∧ Kd.R (Kd.int .u8) 5 w' w.heap.size (fun _ => True) v0_ r1 ∧ Below w.heap.size w w' := by
  unfold inode_Put.f inodeOk at h
  split at h
  · next hc =>
    simp only [Bool.and_eq_true, decide_eq_true_eq] at hc
    have e := Option.some.inj h
    have := put_c a0_0 a0_1 A0_2 c0_2 l0_2 a1 w hr0_2 hc0_2 hc.1 hc.2
    rw [e] at this
    exact this
  · cases h
def hanaperref12_Put.f (a0_0 : ByteArray) (a0_1 : Int) (l0_2 : List Int) (a1 : Int) : Option (List Int × Int) := if inodeOk a0_0 l0_2 = true then some (putS a0_0 a0_1 l0_2 a1) else none
theorem hanaperref12_Put.calls (a0_0 : ByteArray) (a0_1 : Int) (A0_2 : Option Addr) (c0_2 : Nat) (l0_2 : List Int) (a1 : Int) (r1 : List Int) (r2 : Int) (w : World) (hr0_2 : Kd.C (Kd.int .i64) w A0_2 l0_2.length l0_2) (hc0_2 : l0_2.length ≤ c0_2) (h : hanaperref12_Put.f a0_0 a0_1 l0_2 a1 = some (r1, r2)) :
    Calls Try.prog 17 #[.agg #[.string a0_0, .int .i64 a0_1, .slice A0_2 l0_2.length c0_2], .int .i64 a1] w fun e w' => ∃ v0_ : Value, e = .returned (.tuple #[v0_, .int .i64 r2]) ∧ Kd.R (Kd.int .u8) 5 w' w.heap.size (fun _ => True) v0_ r1 ∧ Below w.heap.size w w' := by
  unfold hanaperref12_Put.f inodeOk at h
  split at h
  · next hc =>
    simp only [Bool.and_eq_true, decide_eq_true_eq] at hc
    have e := Option.some.inj h
    have := rput_c a0_0 a0_1 A0_2 c0_2 l0_2 a1 w hr0_2 hc0_2 hc.1 hc.2
    rw [e] at this
    exact this
  · cases h
def u8B (l : List Int) : Bool := l.all (fun x => decide (0 ≤ x) && decide (x ≤ 255))
theorem u8B_iff {l : List Int} : u8B l = true ↔ U8 l := by
  unfold u8B U8
  simp only [List.all_eq_true, Bool.and_eq_true, decide_eq_true_eq]
def inode_Get.f (l0 : List Int) (a1 : Int) : Option (ByteArray × Int × List Int × Int) := if (decide (l0.length ≤ 1000) && u8B l0) = true then some ((getS l0 a1).1.1, (getS l0 a1).1.2.1, (getS l0 a1).1.2.2, (getS l0 a1).2) else none
theorem inode_Get.calls (A0 : Option Addr) (c0 : Nat) (l0 : List Int) (a1 : Int) (r1 : ByteArray) (r2 : Int) (r3 : List Int) (r4 : Int) (w : World) (hr0 : Kd.C (Kd.int .u8) w A0 l0.length l0) (hc0 : l0.length ≤ c0) (h : inode_Get.f l0 a1 = some (r1, r2, r3, r4)) :
    Calls Try.prog 43 #[.slice A0 l0.length c0, .int .i64 a1] w fun e w' => ∃ v2_ : Value, e = .returned (.tuple #[.agg #[.string r1, .int .i64 r2, v2_], .int .i64 r4]) ∧ Kd.R (Kd.int .i64) 3 w' w.heap.size (fun _ => True) v2_ r3 ∧ Below w.heap.size w w' := by
  unfold inode_Get.f at h
  split at h
  · next hc =>
    simp only [Bool.and_eq_true, decide_eq_true_eq] at hc
    simp only [Option.some.injEq, Prod.mk.injEq] at h
    obtain ⟨rfl, rfl, rfl, rfl⟩ := h
    exact InodeGet.get_c w A0 c0 l0 a1 hr0 hc0 hc.1 (u8B_iff.1 hc.2)
  · cases h
def hanaperref12_Get.f (l0 : List Int) (a1 : Int) : Option (ByteArray × Int × List Int × Int) := if (decide (l0.length ≤ 1000) && u8B l0) = true then some ((getS l0 a1).1.1, (getS l0 a1).1.2.1, (getS l0 a1).1.2.2, (getS l0 a1).2) else none
theorem hanaperref12_Get.calls (A0 : Option Addr) (c0 : Nat) (l0 : List Int) (a1 : Int) (r1 : ByteArray) (r2 : Int) (r3 : List Int) (r4 : Int) (w : World) (hr0 : Kd.C (Kd.int .u8) w A0 l0.length l0) (hc0 : l0.length ≤ c0) (h : hanaperref12_Get.f l0 a1 = some (r1, r2, r3, r4)) :
    Calls Try.prog 44 #[.slice A0 l0.length c0, .int .i64 a1] w fun e w' => ∃ v2_ : Value, e = .returned (.tuple #[.agg #[.string r1, .int .i64 r2, v2_], .int .i64 r4]) ∧ Kd.R (Kd.int .i64) 3 w' w.heap.size (fun _ => True) v2_ r3 ∧ Below w.heap.size w w' := by
  unfold hanaperref12_Get.f at h
  split at h
  · next hc =>
    simp only [Bool.and_eq_true, decide_eq_true_eq] at hc
    simp only [Option.some.injEq, Prod.mk.injEq] at h
    obtain ⟨rfl, rfl, rfl, rfl⟩ := h
    exact InodeRget.get_c w A0 c0 l0 a1 hr0 hc0 hc.1 (u8B_iff.1 hc.2)
  · cases h
def hanaperlaw12_live.f : Option Bool := some true
theorem hanaperlaw12_live.calls (r : Bool) (w : World) (h : hanaperlaw12_live.f = some r) : Calls Try.prog 15 #[] w fun e w' => e = .returned (.bool r) ∧ Below w.heap.size w w' := by
  obtain rfl := Option.some.inj h
  exact live_c w
end Go.Proofs.Ytgdpabedlghiaaa.PZ
-- printed for this claim by a program (pall.sh)
namespace Go.Proofs.Ytgdpabedlghiaaa.PZ
open Go.RowKit Go.Proofs.YtgdpabedlghiaaaW.PrintWords Go.Proofs.YtgdpabedlghiaaaW.PrintLast Go.Proofs.YtgdpabedlghiaaaW.PrintMore
attribute [local go_sem] max2_int min2_int max_two min_two max_three min_three max_four min_four   -- for this text's walks alone
set_option linter.unusedVariables false
set_option linter.unusedSimpArgs false

/-! ### slices_Equal_int_int: function 98 -/
def slices_Equal_int_int.l0 : Nat → List Int → List Int → Int → Int → Option (Bool)
  | 0, _, _, _, _ => none
  | k + 1, x0, x1, x12, x13 => if x13 < x12 then (if 0 ≤ x13 then (if x13 < (x0.length : Int) then (if x13 < (x1.length : Int) then (if (rd x0 x13) = (rd x1 x13) then (slices_Equal_int_int.l0 k x0 x1 x12 (wrap64 (x13 + 1))) else (some false)) else (none)) else (none)) else (none)) else (some true)
def slices_Equal_int_int.f (k : Nat) (l0 : List Int) (l1 : List Int) : Option (Bool) := if (l0.length : Int) = (l1.length : Int) then (slices_Equal_int_int.l0 k l0 l1 (l0.length : Int) 0) else (some false)
theorem slices_Equal_int_int.mono_l : ∀ k, (∀ y0 y1 y2 y3, LeO (slices_Equal_int_int.l0 k y0 y1 y2 y3) (slices_Equal_int_int.l0 (k + 1) y0 y1 y2 y3))
  | 0 => fun _ _ _ _ r h => by simp [slices_Equal_int_int.l0] at h
  | k + 1 => by
    have ih0 := slices_Equal_int_int.mono_l k
    · intro y0 y1 y2 y3
      unfold slices_Equal_int_int.l0
      repeat' first
      | (with_reducible exact ih0 _ _ _ _)
      | (with_reducible exact LeO.refl _)
      | (with_reducible exact LeO.none _)
      | (with_reducible refine LeO.ite ?_ ?_)
      | (with_reducible refine LeO.bind ?_ (fun _ => ?_))
      | exact ih0 _ _ _ _
      | exact LeO.none _
      | refine LeO.ite ?_ ?_
      | refine LeO.bind ?_ (fun _ => ?_)
theorem slices_Equal_int_int.mono : ∀ a0 a1 k, LeO (slices_Equal_int_int.f k a0 a1) (slices_Equal_int_int.f (k + 1) a0 a1) := by
  intro a0 a1 k
  have ih0 := slices_Equal_int_int.mono_l k
  unfold slices_Equal_int_int.f
  repeat' first
      | (with_reducible exact ih0 _ _ _ _)
      | (with_reducible exact LeO.refl _)
      | (with_reducible exact LeO.none _)
      | (with_reducible refine LeO.ite ?_ ?_)
      | (with_reducible refine LeO.bind ?_ (fun _ => ?_))
      | exact ih0 _ _ _ _
      | exact LeO.none _
      | refine LeO.ite ?_ ?_
      | refine LeO.bind ?_ (fun _ => ?_)
set_option maxHeartbeats 8000000 in
set_option maxRecDepth 100000 in
theorem slices_Equal_int_int.calls (k : Nat) (A0 : Option Addr) (c0 : Nat) (l0 : List Int) (A1 : Option Addr) (c1 : Nat) (l1 : List Int) (r : Bool) (w : World) (hr0 : Kd.C (Kd.int .i64) w A0 l0.length l0) (hc0 : l0.length ≤ c0) (hr1 : Kd.C (Kd.int .i64) w A1 l1.length l1) (hc1 : l1.length ≤ c1) (h : slices_Equal_int_int.f k l0 l1 = some r) :
    Calls Try.prog 98 #[.slice A0 l0.length c0, .slice A1 l1.length c1] w fun e w' => e = .returned (.bool r) ∧ Drawn0 w w' := by
  have HR0 := Aside0.mk hr0
  have HC0 := Aside0.mk hc0
  clear hr0 hc0
  have HR1 := Aside0.mk hr1
  have HC1 := Aside0.mk hc1
  clear hr1 hc1
  have H : (if (l0.length : Int) = (l1.length : Int) then (slices_Equal_int_int.l0 k l0 l1 (l0.length : Int) 0) else (some false)) = some r := h
  clear h
  by_cases c3 : (l0.length : Int) = (l1.length : Int)
  · rw [if_pos c3] at H
    have c3b0 : ((l0.length : Int) == (l1.length : Int)) = true := beq_iff_eq.mpr c3
    have c3b1 : ((l0.length : Int) != (l1.length : Int)) = false := bne_eq_false_iff_eq.mpr c3
    have c3b2 : (l0.length == l1.length) = true := by first | simpa using c3 | (simp at c3 ⊢; omega)
    clear c3
    have H' := Aside0.mk H
    clear H
    go_enter Try.func98, Try.ntmps98
    go_wp2
    repeat (go_quiet (fail); try go_wp2)
    go_loopg [13] k (fun kq v13 w' => ∃ (x13_1 : Int), v13 = .int .i64 x13_1 ∧ Aside0 (slices_Equal_int_int.l0 kq l0 l1 (l0.length : Int) x13_1 = some r) ∧ Aside0 (kq ≤ k) ∧ Drawn0 w w')
    case atStart => exact ⟨(0), (by first | rfl | (simp; done) | (simp [*]; done)), H', ⟨Nat.le_refl _⟩, by repeat (first | exact Drawn0.refl _ | apply Drawn0.step)⟩
    case round =>
      clear H'
      try clear c1
      try clear p2
      try clear c3
      try clear c3b0
      try clear c3b1
      try clear c3b2
      obtain ⟨x13_1, rfl, HA, HK1, ⟨m1, rfl⟩⟩ := hrel
      cases gk with
      | zero => exact absurd HA.out (by simp [slices_Equal_int_int.l0])
      | succ k1 =>
        have H := HA.out
        clear HA
        simp only [slices_Equal_int_int.l0] at H
        by_cases c4 : x13_1 < (l0.length : Int)
        · rw [if_pos c4] at H
          have c4b0 : decide (x13_1 < (l0.length : Int)) = true := decide_eq_true c4
          clear c4
          by_cases c5 : 0 ≤ x13_1
          · rw [if_pos c5] at H
            have c5b0 : decide (0 ≤ x13_1) = true := decide_eq_true c5
            clear c5
            by_cases c6 : x13_1 < (l0.length : Int)
            · rw [if_pos c6] at H
              have c6b0 : decide (x13_1 < (l0.length : Int)) = true := decide_eq_true c6
              clear c6
              by_cases c7 : x13_1 < (l1.length : Int)
              · rw [if_pos c7] at H
                have c7b0 : decide (x13_1 < (l1.length : Int)) = true := decide_eq_true c7
                clear c7
                by_cases c8 : (rd l0 x13_1) = (rd l1 x13_1)
                · rw [if_pos c8] at H
                  have c8b0 : ((rd l0 x13_1) == (rd l1 x13_1)) = true := beq_iff_eq.mpr c8
                  have c8b1 : ((rd l0 x13_1) != (rd l1 x13_1)) = false := bne_eq_false_iff_eq.mpr c8
                  clear c8
                  have H' := Aside0.mk H
                  clear H
                  have p101 : 0 ≤ (x13_1 : Int) := of_decide_eq_true (by first | (with_reducible assumption) | assumption)
                  have q101 : x13_1 < (l0.length : Int) := of_decide_eq_true (by first | (with_reducible assumption) | assumption)
                  obtain ⟨ad101, e101, hx101_0⟩ := Kd.at_int HR0.out x13_1 p101 q101
                  cases e101
                  replace p101 := eq_true p101
                  replace q101 := eq_true q101
                  have p102 : 0 ≤ (x13_1 : Int) := of_decide_eq_true (by first | (with_reducible assumption) | assumption)
                  have q102 : x13_1 < (l1.length : Int) := of_decide_eq_true (by first | (with_reducible assumption) | assumption)
                  obtain ⟨ad102, e102, hx102_0⟩ := Kd.at_int HR1.out x13_1 p102 q102
                  cases e102
                  replace p102 := eq_true p102
                  replace q102 := eq_true q102
                  go_wp2
                  repeat (go_quiet (fail); try go_wp2)
                  go_roundg k1
                  case measure => have := HK1.out; omega
                  case rel => exact ⟨(wrap64 (x13_1 + 1)), (by first | rfl | (simp; done) | (simp [*]; done)), H', ⟨by have := HK1.out; omega⟩, by repeat (first | exact Drawn0.refl _ | apply Drawn0.step)⟩
                · rw [if_neg c8] at H
                  have c8b0 : ((rd l0 x13_1) == (rd l1 x13_1)) = false := beq_eq_false_iff_ne.mpr c8
                  have c8b1 : ((rd l0 x13_1) != (rd l1 x13_1)) = true := bne_iff_ne.mpr c8
                  obtain rfl := Option.some.inj H
                  have p101 : 0 ≤ (x13_1 : Int) := of_decide_eq_true (by first | (with_reducible assumption) | assumption)
                  have q101 : x13_1 < (l0.length : Int) := of_decide_eq_true (by first | (with_reducible assumption) | assumption)
                  obtain ⟨ad101, e101, hx101_0⟩ := Kd.at_int HR0.out x13_1 p101 q101
                  cases e101
                  replace p101 := eq_true p101
                  replace q101 := eq_true q101
                  have p102 : 0 ≤ (x13_1 : Int) := of_decide_eq_true (by first | (with_reducible assumption) | assumption)
                  have q102 : x13_1 < (l1.length : Int) := of_decide_eq_true (by first | (with_reducible assumption) | assumption)
                  obtain ⟨ad102, e102, hx102_0⟩ := Kd.at_int HR1.out x13_1 p102 q102
                  cases e102
                  replace p102 := eq_true p102
                  replace q102 := eq_true q102
                  go_wp2
                  repeat (go_quiet (fail); try go_wp2)
                  go_ret
                  exact ⟨by first | rfl | (simp; done) | (simp [*]; done), by repeat (first | exact Drawn0.refl _ | apply Drawn0.step)⟩
              · rw [if_neg c7] at H
                exact absurd H (by simp)
            · rw [if_neg c6] at H
              exact absurd H (by simp)
          · rw [if_neg c5] at H
            exact absurd H (by simp)
        · rw [if_neg c4] at H
          have c4b0 : decide (x13_1 < (l0.length : Int)) = false := decide_eq_false c4
          clear c4
          obtain rfl := Option.some.inj H
          go_wp2
          repeat (go_quiet (fail); try go_wp2)
          go_ret
          exact ⟨by first | rfl | (simp; done) | (simp [*]; done), by repeat (first | exact Drawn0.refl _ | apply Drawn0.step)⟩
  · rw [if_neg c3] at H
    have c3b0 : ((l0.length : Int) == (l1.length : Int)) = false := beq_eq_false_iff_ne.mpr c3
    have c3b1 : ((l0.length : Int) != (l1.length : Int)) = true := bne_iff_ne.mpr c3
    have c3b2 : (l0.length == l1.length) = false := by first | simpa using c3 | (simp at c3 ⊢; omega)
    obtain rfl := Option.some.inj H
    go_enter Try.func98, Try.ntmps98
    go_wp2
    repeat (go_quiet (fail); try go_wp2)
    go_ret
    exact ⟨by first | rfl | (simp; done) | (simp [*]; done), by repeat (first | exact Drawn0.refl _ | apply Drawn0.step)⟩

end Go.Proofs.Ytgdpabedlghiaaa.PZ
-- printed for this claim by a program (pall.sh)
namespace Go.Proofs.Ytgdpabedlghiaaa.PZ
open Go.RowKit Go.Proofs.YtgdpabedlghiaaaW.PrintWords Go.Proofs.YtgdpabedlghiaaaW.PrintLast Go.Proofs.YtgdpabedlghiaaaW.PrintMore
attribute [local go_sem] max2_int min2_int max_two min_two max_three min_three max_four min_four   -- for this text's walks alone
set_option linter.unusedVariables false
set_option linter.unusedSimpArgs false

/-! ### inode_Same: function 46 -/
def inode_Same.f (k : Nat) (a0_0 : ByteArray) (a0_1 : Int) (l0_2 : List Int) (a1_0 : ByteArray) (a1_1 : Int) (l1_2 : List Int) : Option (Bool) := if a0_0.toList = a1_0.toList then (if a0_1 = a1_1 then ((slices_Equal_int_int.f k l0_2 l1_2).bind fun t103 => (some t103)) else (some false)) else (some false)
theorem inode_Same.mono : ∀ a0 a1 a2 a3 a4 a5 k, LeO (inode_Same.f k a0 a1 a2 a3 a4 a5) (inode_Same.f (k + 1) a0 a1 a2 a3 a4 a5) := by
  intro a0 a1 a2 a3 a4 a5 k
  unfold inode_Same.f
  repeat' first
      | (with_reducible exact slices_Equal_int_int.mono _ _ _)
      | (with_reducible exact LeO.refl _)
      | (with_reducible exact LeO.none _)
      | (with_reducible refine LeO.ite ?_ ?_)
      | (with_reducible refine LeO.bind ?_ (fun _ => ?_))
      | exact slices_Equal_int_int.mono _ _ _
      | exact LeO.none _
      | refine LeO.ite ?_ ?_
      | refine LeO.bind ?_ (fun _ => ?_)
set_option maxHeartbeats 8000000 in
set_option maxRecDepth 100000 in
theorem inode_Same.calls (k : Nat) (a0_0 : ByteArray) (a0_1 : Int) (A0_2 : Option Addr) (c0_2 : Nat) (l0_2 : List Int) (a1_0 : ByteArray) (a1_1 : Int) (A1_2 : Option Addr) (c1_2 : Nat) (l1_2 : List Int) (r : Bool) (w : World) (hr0_2 : Kd.C (Kd.int .i64) w A0_2 l0_2.length l0_2) (hc0_2 : l0_2.length ≤ c0_2) (hr1_2 : Kd.C (Kd.int .i64) w A1_2 l1_2.length l1_2) (hc1_2 : l1_2.length ≤ c1_2) (h : inode_Same.f k a0_0 a0_1 l0_2 a1_0 a1_1 l1_2 = some r) :
    Calls Try.prog 46 #[.agg #[.string a0_0, .int .i64 a0_1, .slice A0_2 l0_2.length c0_2], .agg #[.string a1_0, .int .i64 a1_1, .slice A1_2 l1_2.length c1_2]] w fun e w' => e = .returned (.bool r) ∧ Below w.heap.size w w' := by
  have hu24 := Try.underlying24
  have HR0_2 := Aside0.mk hr0_2
  have HC0_2 := Aside0.mk hc0_2
  clear hr0_2 hc0_2
  have HR1_2 := Aside0.mk hr1_2
  have HC1_2 := Aside0.mk hc1_2
  clear hr1_2 hc1_2
  have HB := Aside0.mk (Below.refl w.heap.size w)
  have H : (if a0_0.toList = a1_0.toList then (if a0_1 = a1_1 then ((slices_Equal_int_int.f k l0_2 l1_2).bind fun t103 => (some t103)) else (some false)) else (some false)) = some r := h
  clear h
  by_cases c3 : a0_0.toList = a1_0.toList
  · rw [if_pos c3] at H
    have c3b0 : (a0_0.toList == a1_0.toList) = true := beq_iff_eq.mpr c3
    have c3b1 : (a0_0.toList != a1_0.toList) = false := bne_eq_false_iff_eq.mpr c3
    clear c3
    by_cases c4 : a0_1 = a1_1
    · rw [if_pos c4] at H
      have c4b0 : (a0_1 == a1_1) = true := beq_iff_eq.mpr c4
      have c4b1 : (a0_1 != a1_1) = false := bne_eq_false_iff_eq.mpr c4
      clear c4
      replace H := Option.bind_eq_some_iff.mp H
      obtain ⟨t103, A50, H⟩ := H
      replace H : (some t103) = some r := H
      have A5 := Aside0.mk A50
      clear A50
      obtain rfl := Option.some.inj H
      go_enter Try.func46, Try.ntmps46
      go_wp2_with (first | ((with_reducible refine gate_dst (N := 2) rfl ?_); refine box_event ?hg (N := 2) ?hd (cs := #[.string a0_0, .int .i64 a0_1, .slice A0_2 l0_2.length c0_2]) (t := 24) ?hr ?_; (case hd => rfl); (case hg => rfl); (case hr => first | (go_simp; done) | (go_simp; rfl)); intro gb101 hg w6 hbox hb; have n0_ := Aside0.mk (below_step (by repeat (first | (with_reducible first | exact HB.out | apply below_alloc | apply pw_below_drewN | apply below_drew1) | exact HB.out)) hb); have n1_ := Aside0.mk (hbox); have n2_ := Aside0.mk ((by rw [hg]; exact (below_size (by repeat (first | (with_reducible first | exact HB.out | apply below_alloc | apply pw_below_drewN | apply below_drew1) | exact HB.out))) : w.heap.size ≤ gb101)); have n3_ := Aside0.mk ((by rw [hg]; exact (below_size (by repeat (first | (with_reducible first | exact HB.out | apply below_alloc | apply pw_below_drewN | apply below_drew1) | exact HB.out))) : w.heap.size ≤ gb101)); clear HB; have HB := n0_; have BK101 := n1_; have GW101 := n2_; have GE101 := n3_; clear n0_ n1_ n2_ n3_; clear hb hbox hg) | ((with_reducible refine gate_dst (N := 3) rfl ?_); refine box_event ?hg (N := 3) ?hd (cs := #[.string a1_0, .int .i64 a1_1, .slice A1_2 l1_2.length c1_2]) (t := 24) ?hr ?_; (case hd => rfl); (case hg => rfl); (case hr => first | (go_simp; done) | (go_simp; rfl)); intro gb102 hg w7 hbox hb; have n0_ := Aside0.mk (blk_below (g := gb101) (o := .cells #[.string a0_0, .int .i64 a0_1, .slice A0_2 l0_2.length c0_2] 24 (0, 0)) (by (with_reducible repeat (first | refine blk_drewN ?_ _ | refine blk_drew ?_ | refine blk_alloc ?_ _)); exact BK101.out) hb); have n1_ := Aside0.mk (below_step (by repeat (first | (with_reducible first | exact HB.out | apply below_alloc | apply pw_below_drewN | apply below_drew1 | refine below_set ?_ GE101.out) | exact HB.out)) hb); have n2_ := Aside0.mk (hbox); have n3_ := Aside0.mk ((by rw [hg]; exact (below_size (by repeat (first | (with_reducible first | exact HB.out | apply below_alloc | apply pw_below_drewN | apply below_drew1 | refine below_set ?_ GE101.out) | exact HB.out))) : w.heap.size ≤ gb102)); have n4_ := Aside0.mk ((by rw [hg]; exact (below_size (by repeat (first | (with_reducible first | exact HB.out | apply below_alloc | apply pw_below_drewN | apply below_drew1 | refine below_set ?_ GE101.out) | exact HB.out))) : w.heap.size ≤ gb102)); have n5_ := Aside0.mk ((by rw [hg]; exact Nat.ne_of_lt (blk_lt (g := gb101) (o := .cells #[.string a0_0, .int .i64 a0_1, .slice A0_2 l0_2.length c0_2] 24 (0, 0)) (by (with_reducible repeat (first | refine blk_drewN ?_ _ | refine blk_drew ?_ | refine blk_alloc ?_ _)); exact BK101.out)) : gb101 ≠ gb102)); have n6_ := Aside0.mk ((by rw [hg]; exact Nat.ne_of_gt (blk_lt (g := gb101) (o := .cells #[.string a0_0, .int .i64 a0_1, .slice A0_2 l0_2.length c0_2] 24 (0, 0)) (by (with_reducible repeat (first | refine blk_drewN ?_ _ | refine blk_drew ?_ | refine blk_alloc ?_ _)); exact BK101.out)) : gb102 ≠ gb101)); clear BK101; clear HB; have BK101 := n0_; have HB := n1_; have BK102 := n2_; have GW102 := n3_; have GE102 := n4_; have NB101_102 := n5_; have NB102_101 := n6_; clear n0_ n1_ n2_ n3_ n4_ n5_ n6_; clear hb hbox hg; have hnb8 := NB101_102.out; have hnc8 := NB102_101.out; have hcz9_0 : w7.cell? ⟨gb101, 0, none⟩ = some (.string a0_0) := (blk_cell BK101.out 0).trans rfl; have hcz9_1 : w7.cell? ⟨gb101, 1, none⟩ = some (.int .i64 a0_1) := (blk_cell BK101.out 1).trans rfl; have hcz9_2 : w7.cell? ⟨gb101, 2, none⟩ = some (.slice A0_2 l0_2.length c0_2) := (blk_cell BK101.out 2).trans rfl; have hfz9_0 := blk_frozen BK101.out 0; have hfz9_1 := blk_frozen BK101.out 1; have hfz9_2 := blk_frozen BK101.out 2; have hcz10_0 : w7.cell? ⟨gb102, 0, none⟩ = some (.string a1_0) := (blk_cell BK102.out 0).trans rfl; have hcz10_1 : w7.cell? ⟨gb102, 1, none⟩ = some (.int .i64 a1_1) := (blk_cell BK102.out 1).trans rfl; have hcz10_2 : w7.cell? ⟨gb102, 2, none⟩ = some (.slice A1_2 l1_2.length c1_2) := (blk_cell BK102.out 2).trans rfl; have hfz10_0 := blk_frozen BK102.out 0; have hfz10_1 := blk_frozen BK102.out 1; have hfz10_2 := blk_frozen BK102.out 2) | (go_at_call 98; (with_reducible refine (slices_Equal_int_int.calls k _ _ l0_2 _ _ l1_2 t103 _ ?side1 ?side2 ?side3 ?side4 A5.out).mono ?_); (case side1 => repeat (first | exact (Kd.C_below HR0_2.out HB.out) | (with_reducible refine Kd.C_alloc ?_ _) | (with_reducible refine Kd.C_drewN ?_ _) | (with_reducible refine Kd.C_drew ?_))); (case side2 => exact HC0_2.out); (case side3 => repeat (first | exact (Kd.C_below HR1_2.out HB.out) | (with_reducible refine Kd.C_alloc ?_ _) | (with_reducible refine Kd.C_drewN ?_ _) | (with_reducible refine Kd.C_drew ?_))); (case side4 => exact HC1_2.out); rintro e w' ⟨rfl, ⟨nd, rfl⟩⟩))
      go_ret
      exact ⟨by first | rfl | (simp [errW_none, errW_some] <;> rfl) | (simp [*, errW_none, errW_some] <;> rfl), by repeat (first | (with_reducible first | exact HB.out | apply below_alloc | apply pw_below_drewN | apply below_drew1 | refine below_set ?_ GE101.out | refine below_set ?_ GE102.out) | exact HB.out)⟩
    · rw [if_neg c4] at H
      have c4b0 : (a0_1 == a1_1) = false := beq_eq_false_iff_ne.mpr c4
      have c4b1 : (a0_1 != a1_1) = true := bne_iff_ne.mpr c4
      obtain rfl := Option.some.inj H
      go_enter Try.func46, Try.ntmps46
      go_wp2_with (first | ((with_reducible refine gate_dst (N := 2) rfl ?_); refine box_event ?hg (N := 2) ?hd (cs := #[.string a0_0, .int .i64 a0_1, .slice A0_2 l0_2.length c0_2]) (t := 24) ?hr ?_; (case hd => rfl); (case hg => rfl); (case hr => first | (go_simp; done) | (go_simp; rfl)); intro gb101 hg w11 hbox hb; have n0_ := Aside0.mk (below_step (by repeat (first | (with_reducible first | exact HB.out | apply below_alloc | apply pw_below_drewN | apply below_drew1) | exact HB.out)) hb); have n1_ := Aside0.mk (hbox); have n2_ := Aside0.mk ((by rw [hg]; exact (below_size (by repeat (first | (with_reducible first | exact HB.out | apply below_alloc | apply pw_below_drewN | apply below_drew1) | exact HB.out))) : w.heap.size ≤ gb101)); have n3_ := Aside0.mk ((by rw [hg]; exact (below_size (by repeat (first | (with_reducible first | exact HB.out | apply below_alloc | apply pw_below_drewN | apply below_drew1) | exact HB.out))) : w.heap.size ≤ gb101)); clear HB; have HB := n0_; have BK101 := n1_; have GW101 := n2_; have GE101 := n3_; clear n0_ n1_ n2_ n3_; clear hb hbox hg) | ((with_reducible refine gate_dst (N := 3) rfl ?_); refine box_event ?hg (N := 3) ?hd (cs := #[.string a1_0, .int .i64 a1_1, .slice A1_2 l1_2.length c1_2]) (t := 24) ?hr ?_; (case hd => rfl); (case hg => rfl); (case hr => first | (go_simp; done) | (go_simp; rfl)); intro gb102 hg w12 hbox hb; have n0_ := Aside0.mk (blk_below (g := gb101) (o := .cells #[.string a0_0, .int .i64 a0_1, .slice A0_2 l0_2.length c0_2] 24 (0, 0)) (by (with_reducible repeat (first | refine blk_drewN ?_ _ | refine blk_drew ?_ | refine blk_alloc ?_ _)); exact BK101.out) hb); have n1_ := Aside0.mk (below_step (by repeat (first | (with_reducible first | exact HB.out | apply below_alloc | apply pw_below_drewN | apply below_drew1 | refine below_set ?_ GE101.out) | exact HB.out)) hb); have n2_ := Aside0.mk (hbox); have n3_ := Aside0.mk ((by rw [hg]; exact (below_size (by repeat (first | (with_reducible first | exact HB.out | apply below_alloc | apply pw_below_drewN | apply below_drew1 | refine below_set ?_ GE101.out) | exact HB.out))) : w.heap.size ≤ gb102)); have n4_ := Aside0.mk ((by rw [hg]; exact (below_size (by repeat (first | (with_reducible first | exact HB.out | apply below_alloc | apply pw_below_drewN | apply below_drew1 | refine below_set ?_ GE101.out) | exact HB.out))) : w.heap.size ≤ gb102)); have n5_ := Aside0.mk ((by rw [hg]; exact Nat.ne_of_lt (blk_lt (g := gb101) (o := .cells #[.string a0_0, .int .i64 a0_1, .slice A0_2 l0_2.length c0_2] 24 (0, 0)) (by (with_reducible repeat (first | refine blk_drewN ?_ _ | refine blk_drew ?_ | refine blk_alloc ?_ _)); exact BK101.out)) : gb101 ≠ gb102)); have n6_ := Aside0.mk ((by rw [hg]; exact Nat.ne_of_gt (blk_lt (g := gb101) (o := .cells #[.string a0_0, .int .i64 a0_1, .slice A0_2 l0_2.length c0_2] 24 (0, 0)) (by (with_reducible repeat (first | refine blk_drewN ?_ _ | refine blk_drew ?_ | refine blk_alloc ?_ _)); exact BK101.out)) : gb102 ≠ gb101)); clear BK101; clear HB; have BK101 := n0_; have HB := n1_; have BK102 := n2_; have GW102 := n3_; have GE102 := n4_; have NB101_102 := n5_; have NB102_101 := n6_; clear n0_ n1_ n2_ n3_ n4_ n5_ n6_; clear hb hbox hg; have hnb13 := NB101_102.out; have hnc13 := NB102_101.out; have hcz14_0 : w12.cell? ⟨gb101, 0, none⟩ = some (.string a0_0) := (blk_cell BK101.out 0).trans rfl; have hcz14_1 : w12.cell? ⟨gb101, 1, none⟩ = some (.int .i64 a0_1) := (blk_cell BK101.out 1).trans rfl; have hcz14_2 : w12.cell? ⟨gb101, 2, none⟩ = some (.slice A0_2 l0_2.length c0_2) := (blk_cell BK101.out 2).trans rfl; have hfz14_0 := blk_frozen BK101.out 0; have hfz14_1 := blk_frozen BK101.out 1; have hfz14_2 := blk_frozen BK101.out 2; have hcz15_0 : w12.cell? ⟨gb102, 0, none⟩ = some (.string a1_0) := (blk_cell BK102.out 0).trans rfl; have hcz15_1 : w12.cell? ⟨gb102, 1, none⟩ = some (.int .i64 a1_1) := (blk_cell BK102.out 1).trans rfl; have hcz15_2 : w12.cell? ⟨gb102, 2, none⟩ = some (.slice A1_2 l1_2.length c1_2) := (blk_cell BK102.out 2).trans rfl; have hfz15_0 := blk_frozen BK102.out 0; have hfz15_1 := blk_frozen BK102.out 1; have hfz15_2 := blk_frozen BK102.out 2))
      go_ret
      exact ⟨by first | rfl | (simp [errW_none, errW_some] <;> rfl) | (simp [*, errW_none, errW_some] <;> rfl), by repeat (first | (with_reducible first | exact HB.out | apply below_alloc | apply pw_below_drewN | apply below_drew1 | refine below_set ?_ GE101.out | refine below_set ?_ GE102.out) | exact HB.out)⟩
  · rw [if_neg c3] at H
    have c3b0 : (a0_0.toList == a1_0.toList) = false := beq_eq_false_iff_ne.mpr c3
    have c3b1 : (a0_0.toList != a1_0.toList) = true := bne_iff_ne.mpr c3
    obtain rfl := Option.some.inj H
    go_enter Try.func46, Try.ntmps46
    go_wp2_with (first | ((with_reducible refine gate_dst (N := 2) rfl ?_); refine box_event ?hg (N := 2) ?hd (cs := #[.string a0_0, .int .i64 a0_1, .slice A0_2 l0_2.length c0_2]) (t := 24) ?hr ?_; (case hd => rfl); (case hg => rfl); (case hr => first | (go_simp; done) | (go_simp; rfl)); intro gb101 hg w16 hbox hb; have n0_ := Aside0.mk (below_step (by repeat (first | (with_reducible first | exact HB.out | apply below_alloc | apply pw_below_drewN | apply below_drew1) | exact HB.out)) hb); have n1_ := Aside0.mk (hbox); have n2_ := Aside0.mk ((by rw [hg]; exact (below_size (by repeat (first | (with_reducible first | exact HB.out | apply below_alloc | apply pw_below_drewN | apply below_drew1) | exact HB.out))) : w.heap.size ≤ gb101)); have n3_ := Aside0.mk ((by rw [hg]; exact (below_size (by repeat (first | (with_reducible first | exact HB.out | apply below_alloc | apply pw_below_drewN | apply below_drew1) | exact HB.out))) : w.heap.size ≤ gb101)); clear HB; have HB := n0_; have BK101 := n1_; have GW101 := n2_; have GE101 := n3_; clear n0_ n1_ n2_ n3_; clear hb hbox hg) | ((with_reducible refine gate_dst (N := 3) rfl ?_); refine box_event ?hg (N := 3) ?hd (cs := #[.string a1_0, .int .i64 a1_1, .slice A1_2 l1_2.length c1_2]) (t := 24) ?hr ?_; (case hd => rfl); (case hg => rfl); (case hr => first | (go_simp; done) | (go_simp; rfl)); intro gb102 hg w17 hbox hb; have n0_ := Aside0.mk (blk_below (g := gb101) (o := .cells #[.string a0_0, .int .i64 a0_1, .slice A0_2 l0_2.length c0_2] 24 (0, 0)) (by (with_reducible repeat (first | refine blk_drewN ?_ _ | refine blk_drew ?_ | refine blk_alloc ?_ _)); exact BK101.out) hb); have n1_ := Aside0.mk (below_step (by repeat (first | (with_reducible first | exact HB.out | apply below_alloc | apply pw_below_drewN | apply below_drew1 | refine below_set ?_ GE101.out) | exact HB.out)) hb); have n2_ := Aside0.mk (hbox); have n3_ := Aside0.mk ((by rw [hg]; exact (below_size (by repeat (first | (with_reducible first | exact HB.out | apply below_alloc | apply pw_below_drewN | apply below_drew1 | refine below_set ?_ GE101.out) | exact HB.out))) : w.heap.size ≤ gb102)); have n4_ := Aside0.mk ((by rw [hg]; exact (below_size (by repeat (first | (with_reducible first | exact HB.out | apply below_alloc | apply pw_below_drewN | apply below_drew1 | refine below_set ?_ GE101.out) | exact HB.out))) : w.heap.size ≤ gb102)); have n5_ := Aside0.mk ((by rw [hg]; exact Nat.ne_of_lt (blk_lt (g := gb101) (o := .cells #[.string a0_0, .int .i64 a0_1, .slice A0_2 l0_2.length c0_2] 24 (0, 0)) (by (with_reducible repeat (first | refine blk_drewN ?_ _ | refine blk_drew ?_ | refine blk_alloc ?_ _)); exact BK101.out)) : gb101 ≠ gb102)); have n6_ := Aside0.mk ((by rw [hg]; exact Nat.ne_of_gt (blk_lt (g := gb101) (o := .cells #[.string a0_0, .int .i64 a0_1, .slice A0_2 l0_2.length c0_2] 24 (0, 0)) (by (with_reducible repeat (first | refine blk_drewN ?_ _ | refine blk_drew ?_ | refine blk_alloc ?_ _)); exact BK101.out)) : gb102 ≠ gb101)); clear BK101; clear HB; have BK101 := n0_; have HB := n1_; have BK102 := n2_; have GW102 := n3_; have GE102 := n4_; have NB101_102 := n5_; have NB102_101 := n6_; clear n0_ n1_ n2_ n3_ n4_ n5_ n6_; clear hb hbox hg; have hnb18 := NB101_102.out; have hnc18 := NB102_101.out; have hcz19_0 : w17.cell? ⟨gb101, 0, none⟩ = some (.string a0_0) := (blk_cell BK101.out 0).trans rfl; have hcz19_1 : w17.cell? ⟨gb101, 1, none⟩ = some (.int .i64 a0_1) := (blk_cell BK101.out 1).trans rfl; have hcz19_2 : w17.cell? ⟨gb101, 2, none⟩ = some (.slice A0_2 l0_2.length c0_2) := (blk_cell BK101.out 2).trans rfl; have hfz19_0 := blk_frozen BK101.out 0; have hfz19_1 := blk_frozen BK101.out 1; have hfz19_2 := blk_frozen BK101.out 2; have hcz20_0 : w17.cell? ⟨gb102, 0, none⟩ = some (.string a1_0) := (blk_cell BK102.out 0).trans rfl; have hcz20_1 : w17.cell? ⟨gb102, 1, none⟩ = some (.int .i64 a1_1) := (blk_cell BK102.out 1).trans rfl; have hcz20_2 : w17.cell? ⟨gb102, 2, none⟩ = some (.slice A1_2 l1_2.length c1_2) := (blk_cell BK102.out 2).trans rfl; have hfz20_0 := blk_frozen BK102.out 0; have hfz20_1 := blk_frozen BK102.out 1; have hfz20_2 := blk_frozen BK102.out 2))
    go_ret
    exact ⟨by first | rfl | (simp [errW_none, errW_some] <;> rfl) | (simp [*, errW_none, errW_some] <;> rfl), by repeat (first | (with_reducible first | exact HB.out | apply below_alloc | apply pw_below_drewN | apply below_drew1 | refine below_set ?_ GE101.out | refine below_set ?_ GE102.out) | exact HB.out)⟩

end Go.Proofs.Ytgdpabedlghiaaa.PZ
-- printed for this claim by a program (pall.sh)
namespace Go.Proofs.Ytgdpabedlghiaaa.PZ
open Go.RowKit Go.Proofs.YtgdpabedlghiaaaW.PrintWords Go.Proofs.YtgdpabedlghiaaaW.PrintLast Go.Proofs.YtgdpabedlghiaaaW.PrintMore
attribute [local go_sem] max2_int min2_int max_two min_two max_three min_three max_four min_four   -- for this text's walks alone
set_option linter.unusedVariables false
set_option linter.unusedSimpArgs false

/-! ### hanaperref12_Same: function 45 -/
def hanaperref12_Same.f (k : Nat) (a0_0 : ByteArray) (a0_1 : Int) (l0_2 : List Int) (a1_0 : ByteArray) (a1_1 : Int) (l1_2 : List Int) : Option (Bool) := if a0_0.toList = a1_0.toList then (if a0_1 = a1_1 then ((hanaperref01_SameInts.f k l0_2 l1_2).bind fun t103 => (some t103)) else (some false)) else (some false)
theorem hanaperref12_Same.mono : ∀ a0 a1 a2 a3 a4 a5 k, LeO (hanaperref12_Same.f k a0 a1 a2 a3 a4 a5) (hanaperref12_Same.f (k + 1) a0 a1 a2 a3 a4 a5) := by
  intro a0 a1 a2 a3 a4 a5 k
  unfold hanaperref12_Same.f
  repeat' first
      | (with_reducible exact hanaperref01_SameInts.mono _ _ _)
      | (with_reducible exact LeO.refl _)
      | (with_reducible exact LeO.none _)
      | (with_reducible refine LeO.ite ?_ ?_)
      | (with_reducible refine LeO.bind ?_ (fun _ => ?_))
      | exact hanaperref01_SameInts.mono _ _ _
      | exact LeO.none _
      | refine LeO.ite ?_ ?_
      | refine LeO.bind ?_ (fun _ => ?_)
set_option maxHeartbeats 8000000 in
set_option maxRecDepth 100000 in
theorem hanaperref12_Same.calls (k : Nat) (a0_0 : ByteArray) (a0_1 : Int) (A0_2 : Option Addr) (c0_2 : Nat) (l0_2 : List Int) (a1_0 : ByteArray) (a1_1 : Int) (A1_2 : Option Addr) (c1_2 : Nat) (l1_2 : List Int) (r : Bool) (w : World) (hr0_2 : Kd.C (Kd.int .i64) w A0_2 l0_2.length l0_2) (hc0_2 : l0_2.length ≤ c0_2) (hr1_2 : Kd.C (Kd.int .i64) w A1_2 l1_2.length l1_2) (hc1_2 : l1_2.length ≤ c1_2) (h : hanaperref12_Same.f k a0_0 a0_1 l0_2 a1_0 a1_1 l1_2 = some r) :
    Calls Try.prog 45 #[.agg #[.string a0_0, .int .i64 a0_1, .slice A0_2 l0_2.length c0_2], .agg #[.string a1_0, .int .i64 a1_1, .slice A1_2 l1_2.length c1_2]] w fun e w' => e = .returned (.bool r) ∧ Below w.heap.size w w' := by
  have hu24 := Try.underlying24
  have HR0_2 := Aside0.mk hr0_2
  have HC0_2 := Aside0.mk hc0_2
  clear hr0_2 hc0_2
  have HR1_2 := Aside0.mk hr1_2
  have HC1_2 := Aside0.mk hc1_2
  clear hr1_2 hc1_2
  have HB := Aside0.mk (Below.refl w.heap.size w)
  have H : (if a0_0.toList = a1_0.toList then (if a0_1 = a1_1 then ((hanaperref01_SameInts.f k l0_2 l1_2).bind fun t103 => (some t103)) else (some false)) else (some false)) = some r := h
  clear h
  by_cases c3 : a0_0.toList = a1_0.toList
  · rw [if_pos c3] at H
    have c3b0 : (a0_0.toList == a1_0.toList) = true := beq_iff_eq.mpr c3
    have c3b1 : (a0_0.toList != a1_0.toList) = false := bne_eq_false_iff_eq.mpr c3
    clear c3
    by_cases c4 : a0_1 = a1_1
    · rw [if_pos c4] at H
      have c4b0 : (a0_1 == a1_1) = true := beq_iff_eq.mpr c4
      have c4b1 : (a0_1 != a1_1) = false := bne_eq_false_iff_eq.mpr c4
      clear c4
      replace H := Option.bind_eq_some_iff.mp H
      obtain ⟨t103, A50, H⟩ := H
      replace H : (some t103) = some r := H
      have A5 := Aside0.mk A50
      clear A50
      obtain rfl := Option.some.inj H
      go_enter Try.func45, Try.ntmps45
      go_wp2_with (first | ((with_reducible refine gate_dst (N := 2) rfl ?_); refine box_event ?hg (N := 2) ?hd (cs := #[.string a0_0, .int .i64 a0_1, .slice A0_2 l0_2.length c0_2]) (t := 24) ?hr ?_; (case hd => rfl); (case hg => rfl); (case hr => first | (go_simp; done) | (go_simp; rfl)); intro gb101 hg w6 hbox hb; have n0_ := Aside0.mk (below_step (by repeat (first | (with_reducible first | exact HB.out | apply below_alloc | apply pw_below_drewN | apply below_drew1) | exact HB.out)) hb); have n1_ := Aside0.mk (hbox); have n2_ := Aside0.mk ((by rw [hg]; exact (below_size (by repeat (first | (with_reducible first | exact HB.out | apply below_alloc | apply pw_below_drewN | apply below_drew1) | exact HB.out))) : w.heap.size ≤ gb101)); have n3_ := Aside0.mk ((by rw [hg]; exact (below_size (by repeat (first | (with_reducible first | exact HB.out | apply below_alloc | apply pw_below_drewN | apply below_drew1) | exact HB.out))) : w.heap.size ≤ gb101)); clear HB; have HB := n0_; have BK101 := n1_; have GW101 := n2_; have GE101 := n3_; clear n0_ n1_ n2_ n3_; clear hb hbox hg) | ((with_reducible refine gate_dst (N := 3) rfl ?_); refine box_event ?hg (N := 3) ?hd (cs := #[.string a1_0, .int .i64 a1_1, .slice A1_2 l1_2.length c1_2]) (t := 24) ?hr ?_; (case hd => rfl); (case hg => rfl); (case hr => first | (go_simp; done) | (go_simp; rfl)); intro gb102 hg w7 hbox hb; have n0_ := Aside0.mk (blk_below (g := gb101) (o := .cells #[.string a0_0, .int .i64 a0_1, .slice A0_2 l0_2.length c0_2] 24 (0, 0)) (by (with_reducible repeat (first | refine blk_drewN ?_ _ | refine blk_drew ?_ | refine blk_alloc ?_ _)); exact BK101.out) hb); have n1_ := Aside0.mk (below_step (by repeat (first | (with_reducible first | exact HB.out | apply below_alloc | apply pw_below_drewN | apply below_drew1 | refine below_set ?_ GE101.out) | exact HB.out)) hb); have n2_ := Aside0.mk (hbox); have n3_ := Aside0.mk ((by rw [hg]; exact (below_size (by repeat (first | (with_reducible first | exact HB.out | apply below_alloc | apply pw_below_drewN | apply below_drew1 | refine below_set ?_ GE101.out) | exact HB.out))) : w.heap.size ≤ gb102)); have n4_ := Aside0.mk ((by rw [hg]; exact (below_size (by repeat (first | (with_reducible first | exact HB.out | apply below_alloc | apply pw_below_drewN | apply below_drew1 | refine below_set ?_ GE101.out) | exact HB.out))) : w.heap.size ≤ gb102)); have n5_ := Aside0.mk ((by rw [hg]; exact Nat.ne_of_lt (blk_lt (g := gb101) (o := .cells #[.string a0_0, .int .i64 a0_1, .slice A0_2 l0_2.length c0_2] 24 (0, 0)) (by (with_reducible repeat (first | refine blk_drewN ?_ _ | refine blk_drew ?_ | refine blk_alloc ?_ _)); exact BK101.out)) : gb101 ≠ gb102)); have n6_ := Aside0.mk ((by rw [hg]; exact Nat.ne_of_gt (blk_lt (g := gb101) (o := .cells #[.string a0_0, .int .i64 a0_1, .slice A0_2 l0_2.length c0_2] 24 (0, 0)) (by (with_reducible repeat (first | refine blk_drewN ?_ _ | refine blk_drew ?_ | refine blk_alloc ?_ _)); exact BK101.out)) : gb102 ≠ gb101)); clear BK101; clear HB; have BK101 := n0_; have HB := n1_; have BK102 := n2_; have GW102 := n3_; have GE102 := n4_; have NB101_102 := n5_; have NB102_101 := n6_; clear n0_ n1_ n2_ n3_ n4_ n5_ n6_; clear hb hbox hg; have hnb8 := NB101_102.out; have hnc8 := NB102_101.out; have hcz9_0 : w7.cell? ⟨gb101, 0, none⟩ = some (.string a0_0) := (blk_cell BK101.out 0).trans rfl; have hcz9_1 : w7.cell? ⟨gb101, 1, none⟩ = some (.int .i64 a0_1) := (blk_cell BK101.out 1).trans rfl; have hcz9_2 : w7.cell? ⟨gb101, 2, none⟩ = some (.slice A0_2 l0_2.length c0_2) := (blk_cell BK101.out 2).trans rfl; have hfz9_0 := blk_frozen BK101.out 0; have hfz9_1 := blk_frozen BK101.out 1; have hfz9_2 := blk_frozen BK101.out 2; have hcz10_0 : w7.cell? ⟨gb102, 0, none⟩ = some (.string a1_0) := (blk_cell BK102.out 0).trans rfl; have hcz10_1 : w7.cell? ⟨gb102, 1, none⟩ = some (.int .i64 a1_1) := (blk_cell BK102.out 1).trans rfl; have hcz10_2 : w7.cell? ⟨gb102, 2, none⟩ = some (.slice A1_2 l1_2.length c1_2) := (blk_cell BK102.out 2).trans rfl; have hfz10_0 := blk_frozen BK102.out 0; have hfz10_1 := blk_frozen BK102.out 1; have hfz10_2 := blk_frozen BK102.out 2) | (go_at_call 97; (with_reducible refine (hanaperref01_SameInts.calls k _ _ l0_2 _ _ l1_2 t103 _ ?side1 ?side2 ?side3 ?side4 A5.out).mono ?_); (case side1 => repeat (first | exact (Kd.C_below HR0_2.out HB.out) | (with_reducible refine Kd.C_alloc ?_ _) | (with_reducible refine Kd.C_drewN ?_ _) | (with_reducible refine Kd.C_drew ?_))); (case side2 => exact HC0_2.out); (case side3 => repeat (first | exact (Kd.C_below HR1_2.out HB.out) | (with_reducible refine Kd.C_alloc ?_ _) | (with_reducible refine Kd.C_drewN ?_ _) | (with_reducible refine Kd.C_drew ?_))); (case side4 => exact HC1_2.out); rintro e w' ⟨rfl, ⟨nd, rfl⟩⟩))
      go_ret
      exact ⟨by first | rfl | (simp [errW_none, errW_some] <;> rfl) | (simp [*, errW_none, errW_some] <;> rfl), by repeat (first | (with_reducible first | exact HB.out | apply below_alloc | apply pw_below_drewN | apply below_drew1 | refine below_set ?_ GE101.out | refine below_set ?_ GE102.out) | exact HB.out)⟩
    · rw [if_neg c4] at H
      have c4b0 : (a0_1 == a1_1) = false := beq_eq_false_iff_ne.mpr c4
      have c4b1 : (a0_1 != a1_1) = true := bne_iff_ne.mpr c4
      obtain rfl := Option.some.inj H
      go_enter Try.func45, Try.ntmps45
      go_wp2_with (first | ((with_reducible refine gate_dst (N := 2) rfl ?_); refine box_event ?hg (N := 2) ?hd (cs := #[.string a0_0, .int .i64 a0_1, .slice A0_2 l0_2.length c0_2]) (t := 24) ?hr ?_; (case hd => rfl); (case hg => rfl); (case hr => first | (go_simp; done) | (go_simp; rfl)); intro gb101 hg w11 hbox hb; have n0_ := Aside0.mk (below_step (by repeat (first | (with_reducible first | exact HB.out | apply below_alloc | apply pw_below_drewN | apply below_drew1) | exact HB.out)) hb); have n1_ := Aside0.mk (hbox); have n2_ := Aside0.mk ((by rw [hg]; exact (below_size (by repeat (first | (with_reducible first | exact HB.out | apply below_alloc | apply pw_below_drewN | apply below_drew1) | exact HB.out))) : w.heap.size ≤ gb101)); have n3_ := Aside0.mk ((by rw [hg]; exact (below_size (by repeat (first | (with_reducible first | exact HB.out | apply below_alloc | apply pw_below_drewN | apply below_drew1) | exact HB.out))) : w.heap.size ≤ gb101)); clear HB; have HB := n0_; have BK101 := n1_; have GW101 := n2_; have GE101 := n3_; clear n0_ n1_ n2_ n3_; clear hb hbox hg) | ((with_reducible refine gate_dst (N := 3) rfl ?_); refine box_event ?hg (N := 3) ?hd (cs := #[.string a1_0, .int .i64 a1_1, .slice A1_2 l1_2.length c1_2]) (t := 24) ?hr ?_; (case hd => rfl); (case hg => rfl); (case hr => first | (go_simp; done) | (go_simp; rfl)); intro gb102 hg w12 hbox hb; have n0_ := Aside0.mk (blk_below (g := gb101) (o := .cells #[.string a0_0, .int .i64 a0_1, .slice A0_2 l0_2.length c0_2] 24 (0, 0)) (by (with_reducible repeat (first | refine blk_drewN ?_ _ | refine blk_drew ?_ | refine blk_alloc ?_ _)); exact BK101.out) hb); have n1_ := Aside0.mk (below_step (by repeat (first | (with_reducible first | exact HB.out | apply below_alloc | apply pw_below_drewN | apply below_drew1 | refine below_set ?_ GE101.out) | exact HB.out)) hb); have n2_ := Aside0.mk (hbox); have n3_ := Aside0.mk ((by rw [hg]; exact (below_size (by repeat (first | (with_reducible first | exact HB.out | apply below_alloc | apply pw_below_drewN | apply below_drew1 | refine below_set ?_ GE101.out) | exact HB.out))) : w.heap.size ≤ gb102)); have n4_ := Aside0.mk ((by rw [hg]; exact (below_size (by repeat (first | (with_reducible first | exact HB.out | apply below_alloc | apply pw_below_drewN | apply below_drew1 | refine below_set ?_ GE101.out) | exact HB.out))) : w.heap.size ≤ gb102)); have n5_ := Aside0.mk ((by rw [hg]; exact Nat.ne_of_lt (blk_lt (g := gb101) (o := .cells #[.string a0_0, .int .i64 a0_1, .slice A0_2 l0_2.length c0_2] 24 (0, 0)) (by (with_reducible repeat (first | refine blk_drewN ?_ _ | refine blk_drew ?_ | refine blk_alloc ?_ _)); exact BK101.out)) : gb101 ≠ gb102)); have n6_ := Aside0.mk ((by rw [hg]; exact Nat.ne_of_gt (blk_lt (g := gb101) (o := .cells #[.string a0_0, .int .i64 a0_1, .slice A0_2 l0_2.length c0_2] 24 (0, 0)) (by (with_reducible repeat (first | refine blk_drewN ?_ _ | refine blk_drew ?_ | refine blk_alloc ?_ _)); exact BK101.out)) : gb102 ≠ gb101)); clear BK101; clear HB; have BK101 := n0_; have HB := n1_; have BK102 := n2_; have GW102 := n3_; have GE102 := n4_; have NB101_102 := n5_; have NB102_101 := n6_; clear n0_ n1_ n2_ n3_ n4_ n5_ n6_; clear hb hbox hg; have hnb13 := NB101_102.out; have hnc13 := NB102_101.out; have hcz14_0 : w12.cell? ⟨gb101, 0, none⟩ = some (.string a0_0) := (blk_cell BK101.out 0).trans rfl; have hcz14_1 : w12.cell? ⟨gb101, 1, none⟩ = some (.int .i64 a0_1) := (blk_cell BK101.out 1).trans rfl; have hcz14_2 : w12.cell? ⟨gb101, 2, none⟩ = some (.slice A0_2 l0_2.length c0_2) := (blk_cell BK101.out 2).trans rfl; have hfz14_0 := blk_frozen BK101.out 0; have hfz14_1 := blk_frozen BK101.out 1; have hfz14_2 := blk_frozen BK101.out 2; have hcz15_0 : w12.cell? ⟨gb102, 0, none⟩ = some (.string a1_0) := (blk_cell BK102.out 0).trans rfl; have hcz15_1 : w12.cell? ⟨gb102, 1, none⟩ = some (.int .i64 a1_1) := (blk_cell BK102.out 1).trans rfl; have hcz15_2 : w12.cell? ⟨gb102, 2, none⟩ = some (.slice A1_2 l1_2.length c1_2) := (blk_cell BK102.out 2).trans rfl; have hfz15_0 := blk_frozen BK102.out 0; have hfz15_1 := blk_frozen BK102.out 1; have hfz15_2 := blk_frozen BK102.out 2))
      go_ret
      exact ⟨by first | rfl | (simp [errW_none, errW_some] <;> rfl) | (simp [*, errW_none, errW_some] <;> rfl), by repeat (first | (with_reducible first | exact HB.out | apply below_alloc | apply pw_below_drewN | apply below_drew1 | refine below_set ?_ GE101.out | refine below_set ?_ GE102.out) | exact HB.out)⟩
  · rw [if_neg c3] at H
    have c3b0 : (a0_0.toList == a1_0.toList) = false := beq_eq_false_iff_ne.mpr c3
    have c3b1 : (a0_0.toList != a1_0.toList) = true := bne_iff_ne.mpr c3
    obtain rfl := Option.some.inj H
    go_enter Try.func45, Try.ntmps45
    go_wp2_with (first | ((with_reducible refine gate_dst (N := 2) rfl ?_); refine box_event ?hg (N := 2) ?hd (cs := #[.string a0_0, .int .i64 a0_1, .slice A0_2 l0_2.length c0_2]) (t := 24) ?hr ?_; (case hd => rfl); (case hg => rfl); (case hr => first | (go_simp; done) | (go_simp; rfl)); intro gb101 hg w16 hbox hb; have n0_ := Aside0.mk (below_step (by repeat (first | (with_reducible first | exact HB.out | apply below_alloc | apply pw_below_drewN | apply below_drew1) | exact HB.out)) hb); have n1_ := Aside0.mk (hbox); have n2_ := Aside0.mk ((by rw [hg]; exact (below_size (by repeat (first | (with_reducible first | exact HB.out | apply below_alloc | apply pw_below_drewN | apply below_drew1) | exact HB.out))) : w.heap.size ≤ gb101)); have n3_ := Aside0.mk ((by rw [hg]; exact (below_size (by repeat (first | (with_reducible first | exact HB.out | apply below_alloc | apply pw_below_drewN | apply below_drew1) | exact HB.out))) : w.heap.size ≤ gb101)); clear HB; have HB := n0_; have BK101 := n1_; have GW101 := n2_; have GE101 := n3_; clear n0_ n1_ n2_ n3_; clear hb hbox hg) | ((with_reducible refine gate_dst (N := 3) rfl ?_); refine box_event ?hg (N := 3) ?hd (cs := #[.string a1_0, .int .i64 a1_1, .slice A1_2 l1_2.length c1_2]) (t := 24) ?hr ?_; (case hd => rfl); (case hg => rfl); (case hr => first | (go_simp; done) | (go_simp; rfl)); intro gb102 hg w17 hbox hb; have n0_ := Aside0.mk (blk_below (g := gb101) (o := .cells #[.string a0_0, .int .i64 a0_1, .slice A0_2 l0_2.length c0_2] 24 (0, 0)) (by (with_reducible repeat (first | refine blk_drewN ?_ _ | refine blk_drew ?_ | refine blk_alloc ?_ _)); exact BK101.out) hb); have n1_ := Aside0.mk (below_step (by repeat (first | (with_reducible first | exact HB.out | apply below_alloc | apply pw_below_drewN | apply below_drew1 | refine below_set ?_ GE101.out) | exact HB.out)) hb); have n2_ := Aside0.mk (hbox); have n3_ := Aside0.mk ((by rw [hg]; exact (below_size (by repeat (first | (with_reducible first | exact HB.out | apply below_alloc | apply pw_below_drewN | apply below_drew1 | refine below_set ?_ GE101.out) | exact HB.out))) : w.heap.size ≤ gb102)); have n4_ := Aside0.mk ((by rw [hg]; exact (below_size (by repeat (first | (with_reducible first | exact HB.out | apply below_alloc | apply pw_below_drewN | apply below_drew1 | refine below_set ?_ GE101.out) | exact HB.out))) : w.heap.size ≤ gb102)); have n5_ := Aside0.mk ((by rw [hg]; exact Nat.ne_of_lt (blk_lt (g := gb101) (o := .cells #[.string a0_0, .int .i64 a0_1, .slice A0_2 l0_2.length c0_2] 24 (0, 0)) (by (with_reducible repeat (first | refine blk_drewN ?_ _ | refine blk_drew ?_ | refine blk_alloc ?_ _)); exact BK101.out)) : gb101 ≠ gb102)); have n6_ := Aside0.mk ((by rw [hg]; exact Nat.ne_of_gt (blk_lt (g := gb101) (o := .cells #[.string a0_0, .int .i64 a0_1, .slice A0_2 l0_2.length c0_2] 24 (0, 0)) (by (with_reducible repeat (first | refine blk_drewN ?_ _ | refine blk_drew ?_ | refine blk_alloc ?_ _)); exact BK101.out)) : gb102 ≠ gb101)); clear BK101; clear HB; have BK101 := n0_; have HB := n1_; have BK102 := n2_; have GW102 := n3_; have GE102 := n4_; have NB101_102 := n5_; have NB102_101 := n6_; clear n0_ n1_ n2_ n3_ n4_ n5_ n6_; clear hb hbox hg; have hnb18 := NB101_102.out; have hnc18 := NB102_101.out; have hcz19_0 : w17.cell? ⟨gb101, 0, none⟩ = some (.string a0_0) := (blk_cell BK101.out 0).trans rfl; have hcz19_1 : w17.cell? ⟨gb101, 1, none⟩ = some (.int .i64 a0_1) := (blk_cell BK101.out 1).trans rfl; have hcz19_2 : w17.cell? ⟨gb101, 2, none⟩ = some (.slice A0_2 l0_2.length c0_2) := (blk_cell BK101.out 2).trans rfl; have hfz19_0 := blk_frozen BK101.out 0; have hfz19_1 := blk_frozen BK101.out 1; have hfz19_2 := blk_frozen BK101.out 2; have hcz20_0 : w17.cell? ⟨gb102, 0, none⟩ = some (.string a1_0) := (blk_cell BK102.out 0).trans rfl; have hcz20_1 : w17.cell? ⟨gb102, 1, none⟩ = some (.int .i64 a1_1) := (blk_cell BK102.out 1).trans rfl; have hcz20_2 : w17.cell? ⟨gb102, 2, none⟩ = some (.slice A1_2 l1_2.length c1_2) := (blk_cell BK102.out 2).trans rfl; have hfz20_0 := blk_frozen BK102.out 0; have hfz20_1 := blk_frozen BK102.out 1; have hfz20_2 := blk_frozen BK102.out 2))
    go_ret
    exact ⟨by first | rfl | (simp [errW_none, errW_some] <;> rfl) | (simp [*, errW_none, errW_some] <;> rfl), by repeat (first | (with_reducible first | exact HB.out | apply below_alloc | apply pw_below_drewN | apply below_drew1 | refine below_set ?_ GE101.out | refine below_set ?_ GE102.out) | exact HB.out)⟩

end Go.Proofs.Ytgdpabedlghiaaa.PZ
/- Whether two inodes are the same: both answer alike. -/
namespace Go.Proofs.Ytgdpabedlghiaaa.InodeSame
open Go.RowKit Go.Proofs.Ytgdpabedlghiaaa.AllocEv Go.Proofs.Ytgdpabedlghiaaa.Aid Go.Proofs.Ytgdpabedlghiaaa.PZ Go.Proofs.YtgdpabedlghiaaaW.PrintWords Go.Proofs.YtgdpabedlghiaaaW.PrintLast Go.Proofs.YtgdpabedlghiaaaW.PrintMore

theorem equal_ev (a b : List Int) (hn : a.length ≤ 4611686018427387904) : Ev (fun k => slices_Equal_int_int.f k a b) (decide (a = b)) := by
  unfold slices_Equal_int_int.f
  by_cases e : a.length = b.length
  · refine pos (by omega) ?_
    have key : ∀ (d i : Nat), i + d = a.length → Ev (fun k => slices_Equal_int_int.l0 k a b (a.length : Int) (i : Int)) (decide (a.drop i = b.drop i)) := by
      intro d
      induction d with
      | zero =>
        intro i hi
        refine Ev.step (fun k => by simp only [slices_Equal_int_int.l0]; rfl) ?_
        refine neg (by omega) (now ?_)
        rw [List.drop_of_length_le (by omega), List.drop_of_length_le (by omega)]; simp
      | succ d ih =>
        intro i hi
        refine Ev.step (fun k => by simp only [slices_Equal_int_int.l0]; rfl) ?_
        refine pos (by omega) (pos (by omega) (pos (by omega) (pos (by omega) ?_)))
        rw [rd_nat a i (by omega), rd_nat b i (by omega), drop_cons a i (by omega), drop_cons b i (by omega), inc (show i < a.length by omega) hn]
        by_cases h : a[i]'(by omega) = b[i]'(by omega)
        · refine pos h ?_
          have := ih (i + 1) (by omega)
          generalize a.drop (i + 1) = A at this ⊢
          generalize b.drop (i + 1) = B at this ⊢
          simpa [h] using this
        · refine neg h (now ?_)
          generalize a.drop (i + 1) = A
          generalize b.drop (i + 1) = B
          simp [h]
    simpa using key a.length 0 (by omega)
  · refine neg (by omega) (now ?_)
    have : a ≠ b := fun h => e (by rw [h])
    simp [this]
def sameB (n0 : ByteArray) (s0 : Int) (a0 : List Int) (n1 : ByteArray) (s1 : Int) (a1 : List Int) : Bool := decide (n0.toList = n1.toList) && (decide (s0 = s1) && decide (a0 = a1))
theorem isame_ev (n0 : ByteArray) (s0 : Int) (a0 : List Int) (n1 : ByteArray) (s1 : Int) (a1 : List Int) (hn : a0.length ≤ 4611686018427387904) : Ev (fun k => inode_Same.f k n0 s0 a0 n1 s1 a1) (sameB n0 s0 a0 n1 s1 a1) := by
  unfold inode_Same.f sameB
  by_cases h : n0.toList = n1.toList
  · rw [decide_eq_true h]
    refine pos h ?_
    by_cases h2 : s0 = s1
    · rw [decide_eq_true h2]
      exact pos h2 (evBind (equal_ev a0 a1 hn) (now (by simp)))
    · exact neg h2 (now (by simp [h2]))
  · exact neg h (now (by simp [h]))
theorem rsame_ev (n0 : ByteArray) (s0 : Int) (a0 : List Int) (n1 : ByteArray) (s1 : Int) (a1 : List Int) (hn : a0.length ≤ 4611686018427387904) : Ev (fun k => hanaperref12_Same.f k n0 s0 a0 n1 s1 a1) (sameB n0 s0 a0 n1 s1 a1) := by
  unfold hanaperref12_Same.f sameB
  by_cases h : n0.toList = n1.toList
  · rw [decide_eq_true h]
    refine pos h ?_
    by_cases h2 : s0 = s1
    · rw [decide_eq_true h2]
      exact pos h2 (evBind (sameInts_ev a0 a1 hn) (now (by simp)))
    · exact neg h2 (now (by simp [h2]))
  · exact neg h (now (by simp [h]))
end Go.Proofs.Ytgdpabedlghiaaa.InodeSame
-- printed for this claim by a program (pall.sh)
namespace Go.Proofs.Ytgdpabedlghiaaa.PZ
open Go.RowKit Go.Proofs.YtgdpabedlghiaaaW.PrintWords Go.Proofs.YtgdpabedlghiaaaW.PrintLast Go.Proofs.YtgdpabedlghiaaaW.PrintMore
attribute [local go_sem] max2_int min2_int max_two min_two max_three min_three max_four min_four   -- for this text's walks alone
set_option linter.unusedVariables false
set_option linter.unusedSimpArgs false

/-! ### hanaperlaw12_huge: function 14 -/
def hanaperlaw12_huge.f (a0_0 : ByteArray) (a0_1 : Int) (l0_2 : List Int) (a1 : Int) : Option (Bool) := if (a0_0.size : Int) > 200 then (some true) else (if (l0_2.length : Int) > 200 then (some true) else (if a1 > 300 then (some (decide (a1 ≤ 1024))) else (some false)))
set_option maxHeartbeats 8000000 in
set_option maxRecDepth 100000 in
theorem hanaperlaw12_huge.calls (a0_0 : ByteArray) (a0_1 : Int) (A0_2 : Option Addr) (c0_2 : Nat) (l0_2 : List Int) (a1 : Int) (r : Bool) (w : World) (hr0_2 : Kd.C (Kd.int .i64) w A0_2 l0_2.length l0_2) (hc0_2 : l0_2.length ≤ c0_2) (h : hanaperlaw12_huge.f a0_0 a0_1 l0_2 a1 = some r) :
    Calls Try.prog 14 #[.agg #[.string a0_0, .int .i64 a0_1, .slice A0_2 l0_2.length c0_2], .int .i64 a1] w fun e w' => e = .returned (.bool r) ∧ Below w.heap.size w w' := by
  have hu24 := Try.underlying24
  have HR0_2 := Aside0.mk hr0_2
  have HC0_2 := Aside0.mk hc0_2
  clear hr0_2 hc0_2
  have HB := Aside0.mk (Below.refl w.heap.size w)
  have H : (if (a0_0.size : Int) > 200 then (some true) else (if (l0_2.length : Int) > 200 then (some true) else (if a1 > 300 then (some (decide (a1 ≤ 1024))) else (some false)))) = some r := h
  clear h
  by_cases c3 : (a0_0.size : Int) > 200
  · rw [if_pos c3] at H
    have c3b0 : decide (200 < (a0_0.size : Int)) = true := decide_eq_true c3
    have c3b1 : decide (200 < a0_0.size) = true := decide_eq_true (by omega)
    clear c3
    obtain rfl := Option.some.inj H
    go_enter Try.func14, Try.ntmps14
    go_wp2_with (first | ((with_reducible refine gate_dst (N := 2) rfl ?_); (try (refine gate_guard (by rfl) ?_; dsimp only)); refine box_event ?hg (N := 2) ?hd (cs := #[.string a0_0, .int .i64 a0_1, .slice A0_2 l0_2.length c0_2]) (t := 24) ?hr ?_; (case hd => rfl); (case hg => rfl); (case hr => first | (go_simp; done) | (go_simp; rfl)); intro gb101 hg w4 hbox hb; have n0_ := Aside0.mk (below_step (by repeat (first | (with_reducible first | exact HB.out | apply below_alloc | apply pw_below_drewN | apply below_drew1) | exact HB.out)) hb); have n1_ := Aside0.mk (hbox); have n2_ := Aside0.mk ((by rw [hg]; exact (below_size (by repeat (first | (with_reducible first | exact HB.out | apply below_alloc | apply pw_below_drewN | apply below_drew1) | exact HB.out))) : w.heap.size ≤ gb101)); have n3_ := Aside0.mk ((by rw [hg]; exact (below_size (by repeat (first | (with_reducible first | exact HB.out | apply below_alloc | apply pw_below_drewN | apply below_drew1) | exact HB.out))) : w.heap.size ≤ gb101)); clear HB; have HB := n0_; have BK101 := n1_; have GW101 := n2_; have GE101 := n3_; clear n0_ n1_ n2_ n3_; clear hb hbox hg; have hcz5_0 : w4.cell? ⟨gb101, 0, none⟩ = some (.string a0_0) := (blk_cell BK101.out 0).trans rfl; have hcz5_1 : w4.cell? ⟨gb101, 1, none⟩ = some (.int .i64 a0_1) := (blk_cell BK101.out 1).trans rfl; have hcz5_2 : w4.cell? ⟨gb101, 2, none⟩ = some (.slice A0_2 l0_2.length c0_2) := (blk_cell BK101.out 2).trans rfl; have hfz5_0 := blk_frozen BK101.out 0; have hfz5_1 := blk_frozen BK101.out 1; have hfz5_2 := blk_frozen BK101.out 2))
    go_ret
    exact ⟨by first | rfl | (simp [errW_none, errW_some] <;> rfl) | (simp [*, errW_none, errW_some] <;> rfl), by repeat (first | (with_reducible first | exact HB.out | apply below_alloc | apply pw_below_drewN | apply below_drew1 | refine below_set ?_ GE101.out) | exact HB.out)⟩
  · rw [if_neg c3] at H
    have c3b0 : decide (200 < (a0_0.size : Int)) = false := decide_eq_false c3
    have c3b1 : decide (200 < a0_0.size) = false := decide_eq_false (by omega)
    clear c3
    by_cases c6 : (l0_2.length : Int) > 200
    · rw [if_pos c6] at H
      have c6b0 : decide (200 < (l0_2.length : Int)) = true := decide_eq_true c6
      have c6b1 : decide (200 < l0_2.length) = true := decide_eq_true (by omega)
      clear c6
      obtain rfl := Option.some.inj H
      go_enter Try.func14, Try.ntmps14
      go_wp2_with (first | ((with_reducible refine gate_dst (N := 2) rfl ?_); (try (refine gate_guard (by rfl) ?_; dsimp only)); refine box_event ?hg (N := 2) ?hd (cs := #[.string a0_0, .int .i64 a0_1, .slice A0_2 l0_2.length c0_2]) (t := 24) ?hr ?_; (case hd => rfl); (case hg => rfl); (case hr => first | (go_simp; done) | (go_simp; rfl)); intro gb101 hg w7 hbox hb; have n0_ := Aside0.mk (below_step (by repeat (first | (with_reducible first | exact HB.out | apply below_alloc | apply pw_below_drewN | apply below_drew1) | exact HB.out)) hb); have n1_ := Aside0.mk (hbox); have n2_ := Aside0.mk ((by rw [hg]; exact (below_size (by repeat (first | (with_reducible first | exact HB.out | apply below_alloc | apply pw_below_drewN | apply below_drew1) | exact HB.out))) : w.heap.size ≤ gb101)); have n3_ := Aside0.mk ((by rw [hg]; exact (below_size (by repeat (first | (with_reducible first | exact HB.out | apply below_alloc | apply pw_below_drewN | apply below_drew1) | exact HB.out))) : w.heap.size ≤ gb101)); clear HB; have HB := n0_; have BK101 := n1_; have GW101 := n2_; have GE101 := n3_; clear n0_ n1_ n2_ n3_; clear hb hbox hg; have hcz8_0 : w7.cell? ⟨gb101, 0, none⟩ = some (.string a0_0) := (blk_cell BK101.out 0).trans rfl; have hcz8_1 : w7.cell? ⟨gb101, 1, none⟩ = some (.int .i64 a0_1) := (blk_cell BK101.out 1).trans rfl; have hcz8_2 : w7.cell? ⟨gb101, 2, none⟩ = some (.slice A0_2 l0_2.length c0_2) := (blk_cell BK101.out 2).trans rfl; have hfz8_0 := blk_frozen BK101.out 0; have hfz8_1 := blk_frozen BK101.out 1; have hfz8_2 := blk_frozen BK101.out 2))
      go_ret
      exact ⟨by first | rfl | (simp [errW_none, errW_some] <;> rfl) | (simp [*, errW_none, errW_some] <;> rfl), by repeat (first | (with_reducible first | exact HB.out | apply below_alloc | apply pw_below_drewN | apply below_drew1 | refine below_set ?_ GE101.out) | exact HB.out)⟩
    · rw [if_neg c6] at H
      have c6b0 : decide (200 < (l0_2.length : Int)) = false := decide_eq_false c6
      have c6b1 : decide (200 < l0_2.length) = false := decide_eq_false (by omega)
      clear c6
      by_cases c9 : a1 > 300
      · rw [if_pos c9] at H
        have c9b0 : decide (300 < a1) = true := decide_eq_true c9
        clear c9
        obtain rfl := Option.some.inj H
        go_enter Try.func14, Try.ntmps14
        go_wp2_with (first | ((with_reducible refine gate_dst (N := 2) rfl ?_); (try (refine gate_guard (by rfl) ?_; dsimp only)); refine box_event ?hg (N := 2) ?hd (cs := #[.string a0_0, .int .i64 a0_1, .slice A0_2 l0_2.length c0_2]) (t := 24) ?hr ?_; (case hd => rfl); (case hg => rfl); (case hr => first | (go_simp; done) | (go_simp; rfl)); intro gb101 hg w10 hbox hb; have n0_ := Aside0.mk (below_step (by repeat (first | (with_reducible first | exact HB.out | apply below_alloc | apply pw_below_drewN | apply below_drew1) | exact HB.out)) hb); have n1_ := Aside0.mk (hbox); have n2_ := Aside0.mk ((by rw [hg]; exact (below_size (by repeat (first | (with_reducible first | exact HB.out | apply below_alloc | apply pw_below_drewN | apply below_drew1) | exact HB.out))) : w.heap.size ≤ gb101)); have n3_ := Aside0.mk ((by rw [hg]; exact (below_size (by repeat (first | (with_reducible first | exact HB.out | apply below_alloc | apply pw_below_drewN | apply below_drew1) | exact HB.out))) : w.heap.size ≤ gb101)); clear HB; have HB := n0_; have BK101 := n1_; have GW101 := n2_; have GE101 := n3_; clear n0_ n1_ n2_ n3_; clear hb hbox hg; have hcz11_0 : w10.cell? ⟨gb101, 0, none⟩ = some (.string a0_0) := (blk_cell BK101.out 0).trans rfl; have hcz11_1 : w10.cell? ⟨gb101, 1, none⟩ = some (.int .i64 a0_1) := (blk_cell BK101.out 1).trans rfl; have hcz11_2 : w10.cell? ⟨gb101, 2, none⟩ = some (.slice A0_2 l0_2.length c0_2) := (blk_cell BK101.out 2).trans rfl; have hfz11_0 := blk_frozen BK101.out 0; have hfz11_1 := blk_frozen BK101.out 1; have hfz11_2 := blk_frozen BK101.out 2))
        go_ret
        exact ⟨by first | rfl | (simp [errW_none, errW_some] <;> rfl) | (simp [*, errW_none, errW_some] <;> rfl), by repeat (first | (with_reducible first | exact HB.out | apply below_alloc | apply pw_below_drewN | apply below_drew1 | refine below_set ?_ GE101.out) | exact HB.out)⟩
      · rw [if_neg c9] at H
        have c9b0 : decide (300 < a1) = false := decide_eq_false c9
        clear c9
        obtain rfl := Option.some.inj H
        go_enter Try.func14, Try.ntmps14
        go_wp2_with (first | ((with_reducible refine gate_dst (N := 2) rfl ?_); (try (refine gate_guard (by rfl) ?_; dsimp only)); refine box_event ?hg (N := 2) ?hd (cs := #[.string a0_0, .int .i64 a0_1, .slice A0_2 l0_2.length c0_2]) (t := 24) ?hr ?_; (case hd => rfl); (case hg => rfl); (case hr => first | (go_simp; done) | (go_simp; rfl)); intro gb101 hg w12 hbox hb; have n0_ := Aside0.mk (below_step (by repeat (first | (with_reducible first | exact HB.out | apply below_alloc | apply pw_below_drewN | apply below_drew1) | exact HB.out)) hb); have n1_ := Aside0.mk (hbox); have n2_ := Aside0.mk ((by rw [hg]; exact (below_size (by repeat (first | (with_reducible first | exact HB.out | apply below_alloc | apply pw_below_drewN | apply below_drew1) | exact HB.out))) : w.heap.size ≤ gb101)); have n3_ := Aside0.mk ((by rw [hg]; exact (below_size (by repeat (first | (with_reducible first | exact HB.out | apply below_alloc | apply pw_below_drewN | apply below_drew1) | exact HB.out))) : w.heap.size ≤ gb101)); clear HB; have HB := n0_; have BK101 := n1_; have GW101 := n2_; have GE101 := n3_; clear n0_ n1_ n2_ n3_; clear hb hbox hg; have hcz13_0 : w12.cell? ⟨gb101, 0, none⟩ = some (.string a0_0) := (blk_cell BK101.out 0).trans rfl; have hcz13_1 : w12.cell? ⟨gb101, 1, none⟩ = some (.int .i64 a0_1) := (blk_cell BK101.out 1).trans rfl; have hcz13_2 : w12.cell? ⟨gb101, 2, none⟩ = some (.slice A0_2 l0_2.length c0_2) := (blk_cell BK101.out 2).trans rfl; have hfz13_0 := blk_frozen BK101.out 0; have hfz13_1 := blk_frozen BK101.out 1; have hfz13_2 := blk_frozen BK101.out 2))
        go_ret
        exact ⟨by first | rfl | (simp [errW_none, errW_some] <;> rfl) | (simp [*, errW_none, errW_some] <;> rfl), by repeat (first | (with_reducible first | exact HB.out | apply below_alloc | apply pw_below_drewN | apply below_drew1 | refine below_set ?_ GE101.out) | exact HB.out)⟩

end Go.Proofs.Ytgdpabedlghiaaa.PZ
/- What the laws InodeGets, InodeBack share. -/
namespace Go.Proofs.Ytgdpabedlghiaaa.InodeLaw
set_option linter.unusedVariables false
set_option linter.unusedSimpArgs false
open Go.RowKit Go.Proofs.Ytgdpabedlghiaaa.Aid Go.Proofs.Ytgdpabedlghiaaa.Base Go.Proofs.Ytgdpabedlghiaaa.TlvPlain Go.Proofs.Ytgdpabedlghiaaa.Lo Go.Proofs.Ytgdpabedlghiaaa.RdPlain Go.Proofs.Ytgdpabedlghiaaa.AllocEv Go.Proofs.Ytgdpabedlghiaaa.AllocPlain Go.Proofs.Ytgdpabedlghiaaa.InodeEv Go.Proofs.Ytgdpabedlghiaaa.InodePut Go.Proofs.Ytgdpabedlghiaaa.InodeLive Go.Proofs.Ytgdpabedlghiaaa.InodeBk Go.Proofs.Ytgdpabedlghiaaa.InodeSame Go.Proofs.Ytgdpabedlghiaaa.PZ Go.Proofs.YtgdpabedlghiaaaW.PrintWords Go.Proofs.YtgdpabedlghiaaaW.PrintLast Go.Proofs.YtgdpabedlghiaaaW.PrintMore
theorem huge_v (nm : ByteArray) (size : Int) (at_ : List Int) (n : Int) : ∃ h, hanaperlaw12_huge.f nm size at_ n = some h ∧ (h = false → nm.size ≤ 200 ∧ at_.length ≤ 200) := by
  unfold hanaperlaw12_huge.f
  by_cases h1 : (nm.size : Int) > 200
  · rw [if_pos h1]; exact ⟨true, rfl, fun h => by cases h⟩
  · rw [if_neg h1]
    by_cases h2 : (at_.length : Int) > 200
    · rw [if_pos h2]; exact ⟨true, rfl, fun h => by cases h⟩
    · rw [if_neg h2]
      split
      · exact ⟨_, rfl, fun _ => ⟨by omega, by omega⟩⟩
      · exact ⟨_, rfl, fun _ => ⟨by omega, by omega⟩⟩
theorem get_v {b : List Int} (n : Int) (hu : U8 b) (hl : b.length ≤ 1000) : inode_Get.f b n = some ((getS b n).1.1, (getS b n).1.2.1, (getS b n).1.2.2, (getS b n).2) := by
  unfold inode_Get.f
  rw [if_pos (by rw [Bool.and_eq_true, decide_eq_true_eq]; exact ⟨hl, u8B_iff.2 hu⟩)]
theorem rget_v {b : List Int} (n : Int) (hu : U8 b) (hl : b.length ≤ 1000) : hanaperref12_Get.f b n = some ((getS b n).1.1, (getS b n).1.2.1, (getS b n).1.2.2, (getS b n).2) := by
  unfold hanaperref12_Get.f
  rw [if_pos (by rw [Bool.and_eq_true, decide_eq_true_eq]; exact ⟨hl, u8B_iff.2 hu⟩)]
theorem put_v {nm : ByteArray} (size : Int) {at_ : List Int} (n : Int) (h1 : nm.size ≤ 1000) (h2 : at_.length ≤ 1000) : inode_Put.f nm size at_ n = some (putS nm size at_ n) := by
  unfold inode_Put.f inodeOk
  rw [if_pos (by rw [Bool.and_eq_true, decide_eq_true_eq, decide_eq_true_eq]; exact ⟨h2, h1⟩)]
theorem same_refl (n0 : ByteArray) (s0 : Int) (a0 : List Int) : sameB n0 s0 a0 n0 s0 a0 = true := by simp [sameB]
theorem list_len (b : List Int) (n : Int) : (listSpec b n).1.length ≤ 5000 := by
  have h := listSpec_len b n
  unfold listSpec at h ⊢
  split
  · next c => rw [if_pos c] at h; omega
  · simp
theorem get_len (b : List Int) (n : Int) : (getS b n).1.2.2.length ≤ 5000 := by
  unfold getS
  split
  · simp
  · split
    · exact list_len _ _
    · simp
theorem u8_wf {l : List Int} (h : ∀ x ∈ l, (Lit.int .u8 x).wf = true) : U8 l := by
  intro x hx
  have := h x hx
  simp only [Lit.wf, IntKind.min, IntKind.max, IntKind.signed, IntKind.bits, Bool.and_eq_true] at this
  simp at this
  omega
abbrev D : Kd (ByteArray × Int × List Int) := Kd.pair Kd.string (Kd.pair (Kd.int .i64) (Kd.slice 3 (Kd.int .i64)))
theorem open_D {w : World} {x : ByteArray × Int × List Int} {cs : Array Value} (hK : D.K w x cs.toList) : ∃ A c, cs = #[.string x.1, .int .i64 x.2.1, .slice A x.2.2.length c] ∧ x.2.2.length ≤ c ∧ Kd.C (Kd.int .i64) w A x.2.2.length x.2.2 := by
  obtain ⟨nm, size, at_⟩ := x
  obtain ⟨_, _, e0, rfl, _, _, e1, rfl, ⟨A, c, rfl, hc, hr⟩⟩ := hK
  subst e1
  have e : cs = #[.string nm, .int .i64 size, .slice A at_.length c] := Array.toList_inj.1 e0
  exact ⟨A, c, e, hc, hr⟩
end Go.Proofs.Ytgdpabedlghiaaa.InodeLaw
/- What an argument reads as, opened kind by kind: out of the form's reading a value of the kind, whose cells it has. -/
namespace Go.Proofs.Ytgdpabedlghiaaa.Open
open Go.Proofs.Ytgdpabedlghiaaa.Base Go.RowKit Go.Proofs.YtgdpabedlghiaaaW.PrintWords Go.Proofs.YtgdpabedlghiaaaW.PrintLast Go.Proofs.YtgdpabedlghiaaaW.PrintMore

/-- With so much fuel, what type t reads as is a value of kind d. -/
def OpensN (P : Program) (n : Nat) (t : TypeId) {α : Type} (d : Kd α) (ok : α → Prop) : Prop :=
  ∀ (H : Type) (enc : TypeId × Value → H) (w : World) (base : Nat) (held : Bool) (cs : List Value) (x : DataW H × List MemPlace), DataW.trod enc P w base (fun _ => true) held n t cs = some x → ∃ v, d.K w v cs ∧ ok v
def Opens (P : Program) (t : TypeId) {α : Type} (d : Kd α) (ok : α → Prop) : Prop := ∀ n, OpensN P n t d ok

theorem opens_int {P : Program} {t : TypeId} {k : IntKind} (ht : P.underlying t = some (.int k)) : Opens P t (Kd.int k) (fun v => (Lit.int k v).wf = true) := by
  intro n H enc w base held cs x h
  obtain ⟨v, rfl, hw, _⟩ : ∃ v, cs = [.int k v] ∧ (Lit.int k v).wf = true ∧ True := by
    cases n with
    | zero => simp [DataW.trod] at h
    | succ n =>
      unfold DataW.trod at h
      rw [ht] at h
      split at h <;> simp_all
  exact ⟨v, rfl, hw⟩
theorem opens_bool {P : Program} {t : TypeId} (ht : P.underlying t = some .bool) : Opens P t Kd.bool (fun _ => True) := by
  intro n H enc w base held cs x h
  obtain ⟨v, rfl⟩ : ∃ v, cs = [.bool v] := by
    cases n with
    | zero => simp [DataW.trod] at h
    | succ n =>
      unfold DataW.trod at h
      rw [ht] at h
      split at h <;> simp_all
  exact ⟨v, rfl, trivial⟩
theorem opens_string {P : Program} {t : TypeId} (ht : P.underlying t = some .string) : Opens P t Kd.string (fun s => s.size ≤ maxLen) := by
  intro n H enc w base held cs x h
  obtain ⟨v, rfl, hv⟩ : ∃ v, cs = [.string v] ∧ v.size ≤ maxLen := by
    cases n with
    | zero => simp [DataW.trod] at h
    | succ n =>
      unfold DataW.trod at h
      rw [ht] at h
      split at h <;> simp_all
  exact ⟨v, rfl, hv⟩
theorem choose_list {α : Type} {p : Nat → α → Prop} : ∀ n, (∀ i, i < n → ∃ v, p i v) → ∃ xs : List α, xs.length = n ∧ ∀ i v, xs[i]? = some v → p i v := by
  intro n
  induction n with
  | zero => intro _; exact ⟨[], rfl, fun i v h => by simp at h⟩
  | succ n ih =>
    intro h
    obtain ⟨xs, hl, hx⟩ := ih (fun i hi => h i (by omega))
    obtain ⟨v, hv⟩ := h n (by omega)
    refine ⟨xs ++ [v], by simp [hl], fun i u hu => ?_⟩
    rcases Nat.lt_or_ge i xs.length with hi | hi
    · rw [List.getElem?_append_left hi] at hu; exact hx i u hu
    · have hi' : i = n := by
        have := (List.getElem?_eq_some_iff.1 hu).1
        rw [List.length_append, List.length_singleton] at this
        omega
      subst hi'
      have : v = u := by rw [← hl] at hu; simpa using hu
      subst this
      exact hv
theorem opensN_slice {P : Program} {n : Nat} {t e : TypeId} {α : Type} {d : Kd α} {ok : α → Prop} (ht : P.underlying t = some (.slice e)) (hc : P.cellsOf e = d.sz) (hd : OpensN P n e d ok) : OpensN P (n + 1) t (Kd.slice e d) (fun xs => ∀ x ∈ xs, ok x) := by
  intro H enc w base held cs x h
  rcases DataW.trod_slice ht h with ⟨rfl, _⟩ | ⟨a, len, cap, elems, rest, m, hm, rfl, _, hb, hl, hmx, hel, hi, _⟩
  · exact ⟨[], ⟨none, 0, rfl, by simp, Kd.C_nil _ _⟩, fun x hx => by cases hx⟩
  · have hmn : m = n := by omega
    subst hmn
    obtain ⟨xs, hxl, hxs⟩ := choose_list (α := α) (p := fun i v => ok v ∧ ∃ c, c.length = d.sz ∧ d.K w v c ∧ ∀ j u, c[j]? = some u → w.cell? (a.add (i * d.sz + j)) = some u) len (fun i hil => by
      have h1 := hi i hil
      rw [List.getElem?_eq_getElem (by omega)] at h1
      obtain ⟨cs', h2, h3⟩ := Option.bind_eq_some_iff.1 h1
      obtain ⟨v, hv, hok⟩ := hd _ _ _ _ _ _ _ h3
      obtain ⟨_, h4, h5⟩ := World.cells?_some h2
      refine ⟨v, hok, cs', by rw [h4, hc], hv, fun j u hu => ?_⟩
      have hj : j < cs'.length := (List.getElem?_eq_some_iff.1 hu).1
      have h6 := h5 j (by omega)
      rw [hu, hc] at h6
      rw [← h6, Addr.add_add])
    refine ⟨xs, ⟨some a, cap, by rw [hxl], by omega, ?_⟩, fun x hx => ?_⟩
    · refine ⟨rfl, ?_, fun _ => ⟨a, rfl, fun j p hj => ?_⟩⟩
      · rw [hxl]; simp only [maxLen] at hmx; omega
      · exact (hxs j p hj).2
    · obtain ⟨i, hi, rfl⟩ := List.mem_iff_getElem.1 hx
      exact (hxs i _ (List.getElem?_eq_getElem hi)).1
theorem opens_slice {P : Program} {t e : TypeId} {α : Type} {d : Kd α} {ok : α → Prop} (ht : P.underlying t = some (.slice e)) (hc : P.cellsOf e = d.sz) (hd : Opens P e d ok) : Opens P t (Kd.slice e d) (fun xs => ∀ x ∈ xs, ok x) := by
  intro n
  cases n with
  | zero => intro H enc w base held cs x h; simp [DataW.trod] at h
  | succ n => exact opensN_slice ht hc (hd n)
/-- The fields of a struct from offset o on. -/
def OpensF (P : Program) (n : Nat) (fs : List Field) (o : Nat) {α : Type} (d : Kd α) (ok : α → Prop) : Prop :=
  ∀ (H : Type) (enc : TypeId × Value → H) (w : World) (base : Nat) (held : Bool) (cs : List Value) (xs : List (DataW H × List MemPlace)),
    cs.length = o + d.sz → fs.mapM (fun f => DataW.trod enc P w base (fun _ => true) held n f.type ((cs.drop f.offset).take (P.cellsOf f.type))) = some xs → ∃ v, d.K w v (cs.drop o) ∧ ok v
theorem opensF_one {P : Program} {n : Nat} {f : Field} {o : Nat} {α : Type} {d : Kd α} {ok : α → Prop} (ho : f.offset = o) (hc : P.cellsOf f.type = d.sz) (hd : OpensN P n f.type d ok) : OpensF P n [f] o d ok := by
  intro H enc w base held cs xs hl h
  have h1 := mapM_some_get h 0 f rfl
  cases hx : xs[0]? with
  | none => rw [List.getElem?_eq_none_iff] at hx; have := mapM_some_length h; simp at this; omega
  | some y =>
    rw [hx, ho, List.take_of_length_le (by rw [List.length_drop]; omega)] at h1
    exact hd _ _ _ _ _ _ _ h1
theorem opensF_cons {P : Program} {n : Nat} {f : Field} {fs : List Field} {o : Nat} {α β : Type} {d : Kd α} {d2 : Kd β} {ok : α → Prop} {ok2 : β → Prop} (ho : f.offset = o) (hc : P.cellsOf f.type = d.sz) (hd : OpensN P n f.type d ok) (hr : OpensF P n fs (o + d.sz) d2 ok2) : OpensF P n (f :: fs) o (Kd.pair d d2) (fun v => ok v.1 ∧ ok2 v.2) := by
  intro H enc w base held cs xs hl h
  rw [List.mapM_cons] at h
  obtain ⟨y, h1, h2⟩ := Option.bind_eq_some_iff.1 h
  obtain ⟨ys, h3, h4⟩ := Option.bind_eq_some_iff.1 h2
  have hsz : (Kd.pair d d2).sz = d.sz + d2.sz := rfl
  rw [ho, hc] at h1
  obtain ⟨v1, k1, o1⟩ := hd _ _ _ _ _ _ _ h1
  obtain ⟨v2, k2, o2⟩ := hr _ _ _ _ _ _ _ (by rw [hl, hsz]; omega) h3
  refine ⟨(v1, v2), ⟨(cs.drop o).take d.sz, cs.drop (o + d.sz), ?_, k1, k2⟩, o1, o2⟩
  rw [← List.drop_drop, List.take_append_drop]
theorem opensN_struct {P : Program} {n : Nat} {t : TypeId} {fs : Array Field} {α : Type} {d : Kd α} {ok : α → Prop} (ht : P.underlying t = some (.struct fs)) (hc : P.cellsOf t = d.sz) (hd : OpensF P n fs.toList 0 d ok) : OpensN P (n + 1) t d ok := by
  intro H enc w base held cs x h
  unfold DataW.trod at h
  rw [ht] at h
  have h' : (if cs.length = P.cellsOf t then (fs.toList.mapM fun f => DataW.trod enc P w base (fun _ => true) held n f.type ((cs.drop f.offset).take (P.cellsOf f.type))).map fun xs => (DataW.agg (xs.map (·.1)), xs.flatMap (·.2)) else none) = some x := by
    revert h
    split <;> simp_all
  split at h'
  · next hl =>
    obtain ⟨xs, h1, _⟩ := Option.map_eq_some_iff.1 h'
    have := hd _ _ _ _ _ _ _ (by rw [hl, hc]; omega) h1
    simpa using this
  · cases h'
theorem opens_struct {P : Program} {t : TypeId} {fs : Array Field} {α : Type} {d : Kd α} {ok : α → Prop} (ht : P.underlying t = some (.struct fs)) (hc : P.cellsOf t = d.sz) (hd : ∀ n, OpensF P n fs.toList 0 d ok) : Opens P t d ok := by
  intro n
  cases n with
  | zero => intro H enc w base held cs x h; simp [DataW.trod] at h
  | succ n => exact opensN_struct ht hc (hd n)
theorem opensN_iso {P : Program} {n : Nat} {t : TypeId} {α β : Type} {d : Kd α} {ok : α → Prop} (f : β → α) (g : α → β) (hg : ∀ a, f (g a) = a) (hd : OpensN P n t d ok) : OpensN P n t (Kd.iso d f) (fun b => ok (f b)) := by
  intro H enc w base held cs x h
  obtain ⟨v, hk, ho⟩ := hd _ _ _ _ _ _ _ h
  exact ⟨g v, by show d.K w (f (g v)) cs; rw [hg]; exact hk, by show ok (f (g v)); rw [hg]; exact ho⟩
theorem opens_iso {P : Program} {t : TypeId} {α β : Type} {d : Kd α} {ok : α → Prop} (f : β → α) (g : α → β) (hg : ∀ a, f (g a) = a) (hd : Opens P t d ok) : Opens P t (Kd.iso d f) (fun b => ok (f b)) := fun n => opensN_iso f g hg (hd n)
theorem opens_ok {P : Program} {t : TypeId} {α : Type} {d : Kd α} {ok ok' : α → Prop} (hd : Opens P t d ok) (h : ∀ v, ok v → ok' v) : Opens P t d ok' := by
  intro n H enc w base held cs x hx
  obtain ⟨v, hk, ho⟩ := hd n _ _ _ _ _ _ _ hx
  exact ⟨v, hk, h v ho⟩
/-- An argument, opened. -/
theorem Opens.arg {P : Program} {t : TypeId} {α : Type} {d : Kd α} {ok : α → Prop} (h : Opens P t d ok) {H : Type} {enc : TypeId × Value → H} {w : World} {base : Nat} {held : Bool} {v : Value} {D : DataW H} {ps : List MemPlace} (ht : DataW.Trod enc P w base (fun _ => true) held t v D ps) : ∃ x, d.K w x v.cells.toList ∧ ok x := by
  obtain ⟨n, hn⟩ := ht
  exact h n _ _ _ _ _ _ _ hn
end Go.Proofs.Ytgdpabedlghiaaa.Open
