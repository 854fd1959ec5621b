import Derived.Test.YtobljmgoengofaaLo
import Derived.WalkSpells
/- The walks of the document's reader. -/
namespace Go.Proofs.Ytobljmgoengofaa.Rf
open Go.Proofs.Ytobljmgoengofaa.Base Go.Proofs.Ytobljmgoengofaa.TlvPlain Go.Proofs.Ytobljmgoengofaa.Lo Go.RowKit Go.Proofs.YtobljmgoengofaaW.PrintWords Go.Proofs.YtobljmgoengofaaW.PrintLast Go.Proofs.YtobljmgoengofaaW.PrintMore

/-- The document's reader at block g: the bytes that are left, and whether it failed. -/
def Rdr (w0 W : World) (g : Nat) (failed : Bool) (bs : List Int) : Prop :=
  w0.heap.size ≤ g ∧ ∃ A c, W.heap[g]? = some (.cells #[.slice A bs.length c, .bool failed] 49 (0, 0)) ∧ bs.length ≤ c ∧ Rb W A bs ∧ bs.length < 140737488355328 ∧ U8 bs
theorem Rdr.lower {w0 w1 W : World} {g : Nat} {f : Bool} {bs : List Int} (h : Rdr w1 W g f bs) (hs : w0.heap.size ≤ w1.heap.size) : Rdr w0 W g f bs := ⟨Nat.le_trans hs h.1, h.2⟩
theorem cells_no_int {f : Bool} {A : Option Addr} {n c : Nat} (i : Nat) (v : Value) (h : (#[.slice A n c, Value.bool f] : Array Value)[i]? = some v) (k : Int) : v ≠ .int .u8 k := by
  match i, h with
  | 0, h => cases h; simp
  | 1, h => cases h; simp
theorem Rdr.below {w0 W W1 : World} {g : Nat} {f : Bool} {bs : List Int} (h : Rdr w0 W g f bs) (hb : Below W.heap.size W W1) : Rdr w0 W1 g f bs := by
  obtain ⟨h0, A, c, h1, h2, h3, h4⟩ := h
  exact ⟨h0, A, c, (hb.block g (blk_lt h1)).trans h1, h2, Kd.C_below h3 hb, h4⟩
/-- Where another block alone was written, in which no numbers lie. -/
theorem Rdr.keep {w0 W W1 : World} {g g' : Nat} {f : Bool} {bs : List Int} (h : Rdr w0 W g f bs) (hk : KeepBut W W1 g' none) (hne : g ≠ g') {T : Nat} {cs : Array Value} (hb : W.heap[g']? = some (.cells cs T (0, 0))) (hcs : ∀ i : Nat, ∀ v, cs[i]? = some v → ∀ n, v ≠ Value.int .u8 n) : Rdr w0 W1 g f bs := by
  obtain ⟨h0, A, c, h1, h2, h3, h4⟩ := h
  exact ⟨h0, A, c, hk.blk h1 hne (by simp), h2, reads_keep h3 hk (reads_ne hb hcs h3), h4⟩
theorem Rdr.set {w0 W : World} {g : Nat} {f : Bool} {bs : List Int} (h : Rdr w0 W g f bs) (f' : Bool) : Rdr w0 (W.setCell ⟨g, 1, none⟩ (.bool f')) g f' bs := by
  obtain ⟨h0, A, c, h1, h2, h3, h4⟩ := h
  exact ⟨h0, A, c, by simpa using blk_set h1 1 (.bool f'), h2, reads_keep h3 (keep_set _ _ _ _) (reads_ne h1 cells_no_int h3), h4⟩
theorem Rdr.cut {w0 W : World} {g : Nat} {f : Bool} {bs cs : List Int} (h : Rdr w0 W g f bs) {A' : Option Addr} {c' : Nat} (hc : cs.length ≤ c') (hr : Rb W A' cs) (hl : cs.length ≤ bs.length) (hu : U8 cs) : Rdr w0 (W.setCell ⟨g, 0, none⟩ (.slice A' cs.length c')) g f cs := by
  obtain ⟨h0, A, c, h1, h2, h3, h4⟩ := h
  exact ⟨h0, A', c', by simpa using blk_set h1 0 (.slice A' cs.length c'), hc, reads_keep hr (keep_set _ _ _ _) (reads_ne h1 cells_no_int hr), Nat.lt_of_le_of_lt hl h4.1, hu⟩

/-- The reader's state: the bytes that are left, or that it failed. -/
def RfO (w0 W : World) (g : Nat) (st : Option (List Int)) : Prop :=
  match st with
  | some bs => Rdr w0 W g false bs
  | none => ∃ bs, Rdr w0 W g true bs
theorem RfO.any {w0 W : World} {g : Nat} {st : Option (List Int)} (h : RfO w0 W g st) : ∃ bs, Rdr w0 W g (!st.isSome) bs := by
  cases st with
  | some bs => exact ⟨bs, h⟩
  | none => exact h
theorem RfO.below {w0 W W1 : World} {g : Nat} {st : Option (List Int)} (h : RfO w0 W g st) (hb : Below W.heap.size W W1) : RfO w0 W1 g st := by
  cases st with
  | some bs => exact Rdr.below h hb
  | none => obtain ⟨bs, h⟩ := h; exact ⟨bs, h.below hb⟩
theorem RfO.keep {w0 W W1 : World} {g g' : Nat} {st : Option (List Int)} (h : RfO w0 W g st) (hk : KeepBut W W1 g' none) (hne : g ≠ g') {T : Nat} {cs : Array Value} (hb : W.heap[g']? = some (.cells cs T (0, 0))) (hcs : ∀ i : Nat, ∀ v, cs[i]? = some v → ∀ n, v ≠ Value.int .u8 n) : RfO w0 W1 g st := by
  cases st with
  | some bs => exact Rdr.keep h hk hne hb hcs
  | none => obtain ⟨bs, h⟩ := h; exact ⟨bs, h.keep hk hne hb hcs⟩
theorem RfO.lower {w0 w1 W : World} {g : Nat} {st : Option (List Int)} (h : RfO w1 W g st) (hs : w0.heap.size ≤ w1.heap.size) : RfO w0 W g st := by
  cases st with
  | some bs => exact Rdr.lower h hs
  | none => obtain ⟨bs, h⟩ := h; exact ⟨bs, h.lower hs⟩
theorem RfO.blk {w0 W : World} {g : Nat} {st : Option (List Int)} (h : RfO w0 W g st) : w0.heap.size ≤ g ∧ g < W.heap.size ∧ ∃ cs, W.heap[g]? = some (.cells cs 49 (0, 0)) ∧ ∀ i : Nat, ∀ v, cs[i]? = some v → ∀ n, v ≠ Value.int .u8 n := by
  obtain ⟨bs, h0, A, c, h1, _⟩ := h.any
  exact ⟨h0, blk_lt h1, _, h1, cells_no_int⟩
theorem RfO.u8 {w0 W : World} {g : Nat} {bs : List Int} (h : RfO w0 W g (some bs)) : U8 bs ∧ bs.length < 140737488355328 := by
  obtain ⟨_, _, _, _, _, _, h1, h2⟩ := (show Rdr w0 W g false bs from h)
  exact ⟨h2, h1⟩
/-- What its field Fail reads as. -/
theorem RfO.fail {w0 W : World} {g : Nat} {st : Option (List Int)} (h : RfO w0 W g st) : W.cell? ⟨g, 1, none⟩ = some (.bool (!st.isSome)) ∧ W.frozen? ⟨g, 1, none⟩ = false := by
  obtain ⟨bs, _, A, c, h1, _⟩ := h.any
  exact ⟨(blk_cell h1 1).trans rfl, blk_frozen h1 1⟩
/-- What its field B reads as. -/
theorem RfO.bytes {w0 W : World} {g : Nat} {bs : List Int} (h : RfO w0 W g (some bs)) : ∃ A c, W.cell? ⟨g, 0, none⟩ = some (.slice A bs.length c) ∧ bs.length ≤ c ∧ Rb W A bs := by
  obtain ⟨_, A, c, h1, h2, h3, _⟩ := (show Rdr w0 W g false bs from h)
  exact ⟨A, c, (blk_cell h1 0).trans rfl, h2, h3⟩
theorem RfO.set {w0 W : World} {g : Nat} {st : Option (List Int)} (h : RfO w0 W g st) : RfO w0 (W.setCell ⟨g, 1, none⟩ (.bool true)) g none := by
  obtain ⟨bs, h⟩ := h.any
  exact ⟨bs, h.set true⟩
/-- What a call that is handed a reader leaves. -/
def Left (w0 w w' : World) (g : Nat) (st : Option (List Int)) : Prop := RfO w0 w' g st ∧ Below w0.heap.size w0 w' ∧ KeepBut w w' g none
theorem Left.trans {w0 w w1 w2 : World} {g : Nat} {s1 s2 : Option (List Int)} (h : Left w0 w w1 g s1) (k : Left w0 w1 w2 g s2) : Left w0 w w2 g s2 := ⟨k.1, k.2.1, h.2.2.trans k.2.2 (.inl rfl)⟩
theorem Left.set {w0 w w' : World} {g : Nat} {st : Option (List Int)} (h : Left w0 w w' g st) : Left w0 w (w'.setCell ⟨g, 1, none⟩ (.bool true)) g none := ⟨h.1.set, below_set h.2.1 h.1.blk.1, h.2.2.set_ 1 _⟩

set_option maxHeartbeats 1600000 in
set_option maxRecDepth 100000 in
theorem take_bad (w0 w : World) (g : Nat) (f : Bool) (bs : List Int) (n : Int) (h : Rdr w0 w g f bs) (hB : Below w0.heap.size w0 w) (hbad : ¬ (f = false ∧ 0 ≤ n ∧ n ≤ bs.length)) :
    Calls Try.prog 46 #[.pointer (some ⟨g, 0, none⟩), .int .i64 n] w fun e w' => ∃ v, e = .returned v ∧ Ob w' w.heap.size v [] ∧ Left w0 w w' g none := by
  have HB := Aside0.mk hB
  clear hB
  have hfin : Left w0 w (w.setCell ⟨g, 1, none⟩ (.bool true)) g none := ⟨⟨bs, h.set true⟩, below_set HB.out h.1, keep_set _ _ _ _⟩
  have HF := Aside0.mk hfin
  clear hfin
  obtain ⟨_, A, c, h1, _⟩ := h
  have hc0 : w.cell? ⟨g, 0, none⟩ = some (.slice A bs.length c) := (blk_cell h1 0).trans rfl
  have hc1 : w.cell? ⟨g, 1, none⟩ = some (.bool f) := (blk_cell h1 1).trans rfl
  have hf1 := blk_frozen h1 1
  clear h1
  cases f with
  | false =>
    by_cases hn : n < 0
    · have hd : decide (n < 0) = true := decide_eq_true hn
      clear hbad hn
      go_enter Try.func46, Try.ntmps46
      go_wp2
      go_ret
      exact ⟨_, rfl, Kd.R_nil _ _ _ _ _, HF.out⟩
    · have hd : decide (n < 0) = false := decide_eq_false hn
      have hg : decide ((bs.length : Int) < n) = true := decide_eq_true (by
        by_cases h2 : (bs.length : Int) < n
        · exact h2
        · exact absurd ⟨rfl, by omega, by omega⟩ hbad)
      clear hbad hn
      go_enter Try.func46, Try.ntmps46
      go_wp2
      go_ret
      exact ⟨_, rfl, Kd.R_nil _ _ _ _ _, HF.out⟩
  | true =>
    clear hbad
    go_enter Try.func46, Try.ntmps46
    go_wp2
    go_ret
    exact ⟨_, rfl, Kd.R_nil _ _ _ _ _, HF.out⟩

set_option maxHeartbeats 1600000 in
set_option maxRecDepth 100000 in
theorem take_good (w0 w : World) (g : Nat) (bs : List Int) (n : Nat) (h : Rdr w0 w g false bs) (hB : Below w0.heap.size w0 w) (hn : n ≤ bs.length) :
    Calls Try.prog 46 #[.pointer (some ⟨g, 0, none⟩), .int .i64 n] w fun e w' => ∃ v, e = .returned v ∧ Ob w' w.heap.size v (bs.take n) ∧ Left w0 w w' g (some (bs.drop n)) := by
  have HI := Aside0.mk h
  have HB := Aside0.mk hB
  clear hB
  obtain ⟨hg0, A, c, h1, h2, h3, h4⟩ := h
  have hnn : (0 : Int) ≤ (n : Int) := Int.natCast_nonneg _
  have hnc : (n : Int) ≤ (c : Int) := by omega
  have hd0 : decide ((n : Int) < 0) = false := decide_eq_false (by omega)
  have hd1 : decide ((bs.length : Int) < (n : Int)) = false := decide_eq_false (by omega)
  have hd2 : decide (bs.length < n) = false := decide_eq_false (by omega)
  have hc0 : w.cell? ⟨g, 0, none⟩ = some (.slice A bs.length c) := (blk_cell h1 0).trans rfl
  have hc1 : w.cell? ⟨g, 1, none⟩ = some (.bool false) := (blk_cell h1 1).trans rfl
  have hf0 := blk_frozen h1 0
  have HGL := Aside0.mk (blk_lt h1)
  have h3' := Kd.reads_of_C (d := (0 : Int)) h3
  have hlen : bs.length ≤ 9223372036854775807 := h3'.2.1
  obtain ⟨i0, hi, hz0, hz1, hz2⟩ := info_parts info_u8
  obtain ⟨A', hcut, hA'⟩ := print_cut (P := Try.prog) 22 5 .i64 Try.underlying22 hi hz1 A bs.length c n hn
  have hrest : Rb w A' (bs.drop n) := by
    have := Kd.C_of_reads (d := (0 : Int)) (h1 := fun _ => rfl) (hA' w .u8 bs h2 h3')
    rwa [← List.length_drop] at this
  have hfirst : Rb w A (bs.take n) := by
    have h5 := Kd.C_of_reads (d := (0 : Int)) (h1 := fun _ => rfl) (ReadsInt.take_ h3' n hn)
    show Kd.C _ w A (bs.take n).length (bs.take n)
    rw [show (bs.take n).length = n from by rw [List.length_take]; omega]
    exact h5
  have HREST := Aside0.mk hrest
  have HFIRST := Aside0.mk hfirst
  have HU := Aside0.mk (h4.2.drop n)
  have HTL := Aside0.mk (show (bs.take n).length = n by rw [List.length_take]; omega)
  have HBL := Aside0.mk (show n < 140737488355328 by have := h4.1; omega)
  have HNC := Aside0.mk (show n ≤ c by omega)
  have HDL := Aside0.mk (show (bs.drop n).length ≤ c - n ∧ (bs.drop n).length ≤ bs.length by rw [List.length_drop]; omega)
  clear hrest hfirst h1 h3 h4 hA' h3' hi hz0 hz1 hz2 hg0
  go_enter Try.func46, Try.ntmps46
  go_wp2_with (go_at_call 37; refine (copy_n A c n (bs.take n) _ HFIRST.out HTL.out HNC.out HBL.out).mono ?_; rintro e w1 ⟨v, rfl, ho, hb⟩; have HO := Aside0.mk ho; have HW := Aside0.mk hb; have hd0' := (hb.cell (p := ⟨g, 0, none⟩) HGL.out).trans hc0; have hf0' := (hb.frozen (p := ⟨g, 0, none⟩) HGL.out).trans hf0; clear ho hb hc0 hc1 hf0)
  go_ret
  have hR := ((HI.out.below HW.out).cut HDL.out.1 (Kd.C_below HREST.out HW.out) HDL.out.2 HU.out)
  rw [List.length_drop] at hR
  refine ⟨_, rfl, Kd.R_mono (Kd.R_far (Kd.R_bound HO.out) (p := ⟨g, 0, none⟩) (fun k hk e => ?_) _) (fun _ _ => trivial), hR, below_set (HB.out.trans (HW.out.mono HB.out.size)) HI.out.1, (KeepBut.of_below HW.out g none).set_ 0 _⟩
  have h1 := hk.2.1
  have h2 := HGL.out
  dsimp only at e
  omega

theorem takeO_ (w0 w : World) (g : Nat) (st : Option (List Int)) (n : Int) (h : RfO w0 w g st) (hB : Below w0.heap.size w0 w) :
    Calls Try.prog 46 #[.pointer (some ⟨g, 0, none⟩), .int .i64 n] w fun e w' => ∃ v, e = .returned v ∧ Ob w' w.heap.size v (takeO st n).1 ∧ Left w0 w w' g (takeO st n).2 := by
  cases st with
  | some bs =>
    by_cases hn : 0 ≤ n ∧ n ≤ bs.length
    · obtain ⟨m, rfl⟩ := Int.eq_ofNat_of_zero_le hn.1
      have e : takeO (some bs) (m : Int) = (bs.take m, some (bs.drop m)) := by simp only [takeO]; rw [if_pos hn]; rfl
      rw [e]
      exact take_good w0 w g bs m h hB (by omega)
    · have e : takeO (some bs) n = ([], none) := by simp only [takeO]; rw [if_neg hn]
      rw [e]
      exact take_bad w0 w g false bs n h hB (fun h => hn h.2)
  | none =>
    obtain ⟨bs, h⟩ := h
    exact take_bad w0 w g true bs n h hB (fun h => by cases h.1)
theorem take1_cons (x : Int) (r : List Int) : takeO (some (x :: r)) 1 = ([x], some r) := by
  simp only [takeO]
  rw [if_pos (by rw [List.length_cons]; omega)]
  rfl
set_option maxHeartbeats 800000 in
theorem left_ (w0 w : World) (g : Nat) (st : Option (List Int)) (h : RfO w0 w g st) :
    Calls Try.prog 49 #[.pointer (some ⟨g, 0, none⟩)] w fun e w' => e = .returned (.int .i64 (leftO st)) ∧ w = w' := by
  cases st with
  | some bs =>
    have hc1 : w.cell? ⟨g, 1, none⟩ = some (.bool false) := h.fail.1
    obtain ⟨A, c, hc0, _, _⟩ := h.bytes
    clear h
    go_enter Try.func49, Try.ntmps49
    go_wp2
    go_ret
    exact ⟨rfl, rfl⟩
  | none =>
    have hc1 : w.cell? ⟨g, 1, none⟩ = some (.bool true) := h.fail.1
    clear h
    go_enter Try.func49, Try.ntmps49
    go_wp2
    go_ret
    exact ⟨rfl, rfl⟩

set_option maxHeartbeats 1600000 in
set_option maxRecDepth 100000 in
theorem num_none (w0 w : World) (g : Nat) (st : Option (List Int)) (h : RfO w0 w g st) (hB : Below w0.heap.size w0 w) (hst : takeO st 1 = ([], none)) :
    Calls Try.prog 39 #[.pointer (some ⟨g, 0, none⟩)] w fun e w' => e = .returned (.int .u64 0) ∧ Left w0 w w' g none := by
  have HS := Aside0.mk h
  have HB := Aside0.mk hB
  have E1 := Aside0.mk hst
  clear h hB hst
  go_enter Try.func39, Try.ntmps39
  go_wp2_with (first
    | (go_at_call 46; refine (takeO_ _ _ _ _ _ HS.out HB.out).mono ?_; rintro e w1 ⟨v, rfl, ho, hl⟩; rw [E1.out] at ho hl; have HL := Aside0.mk hl; have hc1 : w1.cell? ⟨g, 1, none⟩ = some (.bool true) := hl.1.fail.1; have hf1 := hl.1.fail.2; clear ho hl))
  go_ret
  exact ⟨rfl, HL.out.set⟩

set_option maxHeartbeats 1600000 in
set_option maxRecDepth 100000 in
theorem num_wide (w0 w : World) (g : Nat) (x : Int) (r : List Int) (h : RfO w0 w g (some (x :: r))) (hB : Below w0.heap.size w0 w) (hx : 8 < x) :
    Calls Try.prog 39 #[.pointer (some ⟨g, 0, none⟩)] w fun e w' => e = .returned (.int .u64 0) ∧ Left w0 w w' g none := by
  have HS := Aside0.mk h
  have HB := Aside0.mk hB
  have E1 := Aside0.mk (take1_cons x r)
  have hd : decide (8 < x) = true := decide_eq_true hx
  clear h hB hx
  go_enter Try.func39, Try.ntmps39
  go_wp2_with (first
    | (go_at_call 46; refine (takeO_ _ _ _ _ _ HS.out HB.out).mono ?_; rintro e w1 ⟨v, rfl, ho, hl⟩; rw [E1.out] at ho hl; have HL := Aside0.mk hl; have hc1 : w1.cell? ⟨g, 1, none⟩ = some (.bool false) := hl.1.fail.1; have hf1 := hl.1.fail.2; obtain ⟨A, c, rfl, hlc, hrd⟩ := Ob.reads ho; obtain ⟨ad, rfl, hc0⟩ := Rb.at0 hrd; clear ho hl hrd hlc))
  go_ret
  exact ⟨rfl, HL.out.set⟩

set_option maxHeartbeats 1600000 in
set_option maxRecDepth 100000 in
theorem num_short (w0 w : World) (g : Nat) (x : Int) (r : List Int) (h : RfO w0 w g (some (x :: r))) (hB : Below w0.heap.size w0 w) (hx0 : 0 ≤ x) (hx : x ≤ 8) (hl : (r.length : Int) < x) :
    Calls Try.prog 39 #[.pointer (some ⟨g, 0, none⟩)] w fun e w' => e = .returned (.int .u64 0) ∧ Left w0 w w' g none := by
  have HS := Aside0.mk h
  have HB := Aside0.mk hB
  have E1 := Aside0.mk (take1_cons x r)
  have E2 := Aside0.mk (show takeO (some r) x = ([], none) by simp only [takeO]; rw [if_neg (by omega)])
  have hd : decide (8 < x) = false := decide_eq_false (by omega)
  clear h hB hl
  go_enter Try.func39, Try.ntmps39
  go_wp2_with (fail)
  refine (takeO_ _ _ _ _ _ HS.out HB.out).mono ?_; rintro e w1 ⟨v, rfl, ho, hl⟩; rw [E1.out] at ho hl; have HL := Aside0.mk hl; have hc1 : w1.cell? ⟨g, 1, none⟩ = some (.bool false) := hl.1.fail.1; obtain ⟨A, c, rfl, hlc, hrd⟩ := Ob.reads ho; obtain ⟨ad, rfl, hc0⟩ := Rb.at0 hrd; clear ho hl hrd hlc
  go_wp2_with (fail)
  refine (takeO_ _ _ _ _ _ HL.out.1 HL.out.2.1).mono ?_; rintro e w2 ⟨v, rfl, ho, hl⟩; rw [E2.out] at ho hl; have HL2 := Aside0.mk (HL.out.trans hl); have hc2 : w2.cell? ⟨g, 1, none⟩ = some (.bool true) := hl.1.fail.1; have hf2 := hl.1.fail.2; clear HL ho hl hc1 hc0
  go_wp2
  go_ret
  exact ⟨rfl, HL2.out.set⟩

set_option maxHeartbeats 1600000 in
set_option maxRecDepth 100000 in
theorem num_zero (w0 w : World) (g : Nat) (x y : Int) (r : List Int) (h : RfO w0 w g (some (x :: y :: r))) (hB : Below w0.heap.size w0 w) (hx0 : 0 < x) (hx : x ≤ 8) (hl : x ≤ (r.length : Int) + 1) (hy : y = 0) :
    Calls Try.prog 39 #[.pointer (some ⟨g, 0, none⟩)] w fun e w' => e = .returned (.int .u64 0) ∧ Left w0 w w' g none := by
  subst hy
  have HS := Aside0.mk h
  have HB := Aside0.mk hB
  have E1 := Aside0.mk (take1_cons x (0 :: r))
  have E2 := Aside0.mk (show takeO (some (0 :: r)) x = (0 :: r.take (x.toNat - 1), some ((0 :: r).drop x.toNat)) by
    simp only [takeO]
    rw [if_pos (by rw [List.length_cons]; omega)]
    obtain ⟨m, hm⟩ : ∃ m, x.toNat = m + 1 := ⟨x.toNat - 1, by omega⟩
    rw [hm]; rfl)
  have hd : decide (8 < x) = false := decide_eq_false (by omega)
  clear h hB hl
  go_enter Try.func39, Try.ntmps39
  go_wp2_with (fail)
  refine (takeO_ _ _ _ _ _ HS.out HB.out).mono ?_; rintro e w1 ⟨v, rfl, ho, hl⟩; rw [E1.out] at ho hl; have HL := Aside0.mk hl; have hc1 : w1.cell? ⟨g, 1, none⟩ = some (.bool false) := hl.1.fail.1; obtain ⟨A, c, rfl, hlc, hrd⟩ := Ob.reads ho; obtain ⟨ad, rfl, hc0⟩ := Rb.at0 hrd; clear ho hl hrd hlc
  go_wp2_with (fail)
  refine (takeO_ _ _ _ _ _ HL.out.1 HL.out.2.1).mono ?_; rintro e w2 ⟨v, rfl, ho, hl⟩; rw [E2.out] at ho hl; have HL2 := Aside0.mk (HL.out.trans hl); have hc3 : w2.cell? ⟨g, 1, none⟩ = some (.bool false) := hl.1.fail.1; have hf3 := hl.1.fail.2; obtain ⟨A2, c2, rfl, hlc, hrd⟩ := Ob.reads ho; obtain ⟨ad2, rfl, hc2⟩ := Rb.at0 hrd; clear HL ho hl hlc hrd hc1 hc0
  have hl0 : decide (0 < (0 :: r.take (x.toNat - 1)).length) = true := decide_eq_true (by simp)
  generalize (0 :: r.take (x.toNat - 1)).length = nn at hl0 ⊢
  have hl2 : 0 < nn := of_decide_eq_true hl0
  have hl1 : decide (0 < (nn : Int)) = true := decide_eq_true (by omega)
  go_wp2
  go_ret
  exact ⟨rfl, HL2.out.set⟩

set_option maxHeartbeats 3200000 in
set_option maxRecDepth 100000 in
theorem num_good (w0 w : World) (g : Nat) (x : Int) (r : List Int) (h : RfO w0 w g (some (x :: r))) (hB : Below w0.heap.size w0 w) (hx0 : 0 ≤ x) (hx : x ≤ 8) (hl : x ≤ (r.length : Int)) (hy : ¬ (0 < x ∧ r.getD 0 0 = 0)) :
    Calls Try.prog 39 #[.pointer (some ⟨g, 0, none⟩)] w fun e w' => e = .returned (.int .u64 (valueB (r.take x.toNat))) ∧ Left w0 w w' g (some (r.drop x.toNat)) := by
  have HS := Aside0.mk h
  have HB := Aside0.mk hB
  have HU := Aside0.mk ((h.u8.1.tail).take x.toNat)
  have E1 := Aside0.mk (take1_cons x r)
  have E2 := Aside0.mk (show takeO (some r) x = (r.take x.toNat, some (r.drop x.toNat)) by simp only [takeO]; rw [if_pos ⟨hx0, hl⟩])
  obtain ⟨l, hL⟩ : ∃ l, l = r.take x.toNat := ⟨_, rfl⟩
  have hlen : l.length = x.toNat := by rw [hL, List.length_take]; omega
  have hb : (decide (0 < l.length) && (rd l 0 == 0)) = false := by
    rw [Bool.and_eq_false_iff]
    by_cases h0 : 0 < x
    · right
      rw [beq_eq_false_iff_ne]
      intro e
      apply hy
      refine ⟨h0, ?_⟩
      rw [hL] at e
      obtain ⟨m, hm⟩ : ∃ m, x.toNat = m + 1 := ⟨x.toNat - 1, by omega⟩
      cases r with
      | nil => simp at hl; omega
      | cons y r => simpa [rd, hm] using e
    · left
      exact decide_eq_false (by omega)
  rw [← hL] at HU E2 ⊢
  have H8 := Aside0.mk (show l.length ≤ 8 by omega)
  have hd : decide (8 < x) = false := decide_eq_false (by omega)
  clear h hB hl hy hL hlen
  go_enter Try.func39, Try.ntmps39
  go_wp2_with (fail)
  refine (takeO_ _ _ _ _ _ HS.out HB.out).mono ?_; rintro e w1 ⟨v, rfl, ho, hl⟩; rw [E1.out] at ho hl; have HL := Aside0.mk hl; have hc1 : w1.cell? ⟨g, 1, none⟩ = some (.bool false) := hl.1.fail.1; obtain ⟨A, c, rfl, hlc, hrd⟩ := Ob.reads ho; obtain ⟨ad, rfl, hc0⟩ := Rb.at0 hrd; clear ho hl hrd hlc
  go_wp2_with (fail)
  refine (takeO_ _ _ _ _ _ HL.out.1 HL.out.2.1).mono ?_; rintro e w2 ⟨v, rfl, ho, hl⟩; rw [E2.out] at ho hl; have HL2 := Aside0.mk (HL.out.trans hl); have hc3 : w2.cell? ⟨g, 1, none⟩ = some (.bool false) := hl.1.fail.1; obtain ⟨A2, c2, rfl, hlc, hrd⟩ := Ob.reads ho; have HRD := Aside0.mk hrd; have HLC := Aside0.mk hlc; clear HL ho hl hlc hrd hx0 hc1 hc0
  by_cases hz : 0 < l.length
  · have hzi : (0 : Int) < (l.length : Int) := by omega
    obtain ⟨ad2, hA2, hc2⟩ := Kd.at_int HRD.out 0 (Int.le_refl _) hzi
    subst hA2
    have hz0 : decide (0 < l.length) = true := decide_eq_true hz
    have hz1 : decide (0 < (l.length : Int)) = true := decide_eq_true (by omega)
    have hb1 : (rd l 0 == 0) = false := by rw [hz0, Bool.true_and] at hb; exact hb
    have hc5 : w2.cell? ad2 = some (.int .u8 (rd l 0)) := by simpa [Addr.add] using hc2
    clear hb hc2
    go_wp2_with (go_at_call 69; refine (value_c _ c2 l _ HRD.out HLC.out HU.out H8.out).mono ?_; rintro e w' ⟨rfl, ⟨m1, rfl⟩⟩)
    go_ret
    exact ⟨rfl, HL2.out.1.below (Drawn0.mk ⟨m1, rfl⟩).below, pw_below_drewN HL2.out.2.1 m1, keep_drewN HL2.out.2.2 m1⟩
  · have hz0 : decide (0 < l.length) = false := decide_eq_false hz
    have hl0 : l = [] := List.length_eq_zero_iff.1 (by omega)
    subst hl0
    clear hb hz hz0
    have hf0 : decide ((0 : Int) < 0) = false := rfl
    go_wp2_with (go_at_call 69; refine (value_c A2 c2 [] _ HRD.out HLC.out HU.out H8.out).mono ?_; rintro e w' ⟨rfl, ⟨m1, rfl⟩⟩)
    go_ret
    exact ⟨rfl, HL2.out.1.below (Drawn0.mk ⟨m1, rfl⟩).below, pw_below_drewN HL2.out.2.1 m1, keep_drewN HL2.out.2.2 m1⟩

theorem numO_ (w0 w : World) (g : Nat) (st : Option (List Int)) (h : RfO w0 w g st) (hB : Below w0.heap.size w0 w) :
    Calls Try.prog 39 #[.pointer (some ⟨g, 0, none⟩)] w fun e w' => e = .returned (.int .u64 (numO st).1) ∧ Left w0 w w' g (numO st).2 := by
  match st, h with
  | none, h => exact num_none w0 w g none h hB rfl
  | some [], h => exact num_none w0 w g (some []) h hB rfl
  | some (x :: r), h =>
    have hx0 := h.u8.1.head.1
    simp only [numO]
    by_cases h1 : x > 8
    · rw [if_pos h1]; exact num_wide w0 w g x r h hB h1
    · rw [if_neg h1]
      by_cases h2 : (r.length : Int) < x
      · rw [if_pos h2]; exact num_short w0 w g x r h hB hx0 (by omega) h2
      · rw [if_neg h2]
        by_cases h3 : 0 < x ∧ r.getD 0 0 = 0
        · rw [if_pos h3]
          cases r with
          | nil => simp at h2; omega
          | cons y r => exact num_zero w0 w g x y r h hB h3.1 (by omega) (by simp at h2; omega) (by simpa using h3.2)
        · rw [if_neg h3]; exact num_good w0 w g x r h hB hx0 (by omega) (by omega) h3

set_option maxHeartbeats 1600000 in
set_option maxRecDepth 100000 in
theorem countO_ (w0 w : World) (g : Nat) (st : Option (List Int)) (most : Int) (h : RfO w0 w g st) (hB : Below w0.heap.size w0 w) (hm : most ≤ 9223372036854775807) :
    Calls Try.prog 42 #[.pointer (some ⟨g, 0, none⟩), .int .i64 most] w fun e w' => e = .returned (.int .i64 (countO st most).1) ∧ Left w0 w w' g (countO st most).2 := by
  have HS := Aside0.mk h
  have HB := Aside0.mk hB
  have hr := numO_range (st := st) (fun bs e => by subst e; exact h.u8.1)
  unfold countO
  obtain ⟨nv, hnv⟩ : ∃ nv, nv = (numO st).1 := ⟨_, rfl⟩
  rw [← hnv] at hr ⊢
  have HN := Aside0.mk hnv
  have HR := Aside0.mk hr
  have HM := Aside0.mk hm
  clear hm
  clear hr hnv h hB
  by_cases h1 : most < 0
  · rw [if_pos (Or.inl h1)]
    have hd : decide (most < 0) = true := decide_eq_true h1
    clear h1
    go_enter Try.func42, Try.ntmps42
    go_wp2_with (go_at_call 39; refine (numO_ _ _ _ _ HS.out HB.out).mono ?_; rintro e w1 ⟨rfl, hl⟩; rw [← HN.out]; have HL := Aside0.mk hl; obtain ⟨hc1, hf1⟩ := hl.1.fail; clear hl)
    go_ret
    exact ⟨rfl, HL.out.set⟩
  · have hd : decide (most < 0) = false := decide_eq_false h1
    have hw : IntKind.u64.wrap most = most := IntWalk.u64_in _ (by have := HM.out; omega)
    by_cases h2 : nv > most
    · rw [if_pos (Or.inr h2)]
      have hd2 : decide (most < nv) = true := decide_eq_true h2
      clear h1 h2
      go_enter Try.func42, Try.ntmps42
      go_wp2_with (go_at_call 39; refine (numO_ _ _ _ _ HS.out HB.out).mono ?_; rintro e w1 ⟨rfl, hl⟩; rw [← HN.out]; have HL := Aside0.mk hl; obtain ⟨hc1, hf1⟩ := hl.1.fail; clear hl)
      go_ret
      exact ⟨rfl, HL.out.set⟩
    · rw [if_neg (by omega)]
      have hd2 : decide (most < nv) = false := decide_eq_false h2
      have hv : wrap64 nv = nv := IntWalk.wrap64_in _ (by have := HM.out; have := HR.out; omega)
      clear h1 h2
      go_enter Try.func42, Try.ntmps42
      go_wp2_with (go_at_call 39; refine (numO_ _ _ _ _ HS.out HB.out).mono ?_; rintro e w1 ⟨rfl, hl⟩; rw [← HN.out]; have HL := Aside0.mk hl; clear hl)
      go_ret
      exact ⟨by rw [← HN.out, hv]; rfl, HL.out⟩

set_option maxHeartbeats 800000 in
theorem textO_ (w0 w : World) (g : Nat) (st : Option (List Int)) (most : Int) (h : RfO w0 w g st) (hB : Below w0.heap.size w0 w) (hm : most ≤ 9223372036854775807) :
    Calls Try.prog 44 #[.pointer (some ⟨g, 0, none⟩), .int .i64 most] w fun e w' => ∃ v, e = .returned v ∧ Ob w' w.heap.size v (textO st most).1 ∧ Left w0 w w' g (textO st most).2 := by
  have HS := Aside0.mk h
  have HB := Aside0.mk hB
  have HM := Aside0.mk hm
  clear hm h hB
  go_enter Try.func44, Try.ntmps44
  go_wp2_with (first
    | (go_at_call 42; refine (countO_ _ _ _ _ _ HS.out HB.out HM.out).mono ?_; rintro e w1 ⟨rfl, hl⟩; have HL := Aside0.mk hl; clear hl)
    | (go_at_call 46; refine (takeO_ _ _ _ _ _ HL.out.1 HL.out.2.1).mono ?_; rintro e w2 ⟨v, rfl, ho, hl⟩; have HO := Aside0.mk ho; have HT := Aside0.mk hl; clear hl ho))
  go_ret
  exact ⟨_, rfl, Kd.R_lower HO.out HL.out.2.2.1, HL.out.trans HT.out⟩
end Go.Proofs.Ytobljmgoengofaa.Rf
