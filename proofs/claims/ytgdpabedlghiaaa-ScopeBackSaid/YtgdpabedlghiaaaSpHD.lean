/- Own and printed texts, laid together. -/
import Derived.Test.YtgdpabedlghiaaaSpHB
import Derived.WalkSpells
import Derived.Test.YtgdpabedlghiaaaSpHC
import Derived.Deep.RegionLaw
import Derived.Deep.DeepCutAuto
/- The walks of package tlv: what each of its functions does to memory. -/
namespace Go.Proofs.Ytgdpabedlghiaaa.Tlv
open Go.Proofs.Ytgdpabedlghiaaa.Base Go.Proofs.Ytgdpabedlghiaaa.TlvPlain Go.RowKit Go.Proofs.YtgdpabedlghiaaaW.PrintWords Go.Proofs.YtgdpabedlghiaaaW.PrintLast Go.Proofs.YtgdpabedlghiaaaW.PrintMore

/-- A cut of bytes, and in which block it lies. -/
theorem cut2 {P : Program} (t e : TypeId) (kl : IntKind) {i : TypeInfo} (ht : P.underlying t = some (.slice e)) (hi : P.info? e = some i) (hsz : i.size = 1) (A : Option Addr) (n c m : Nat) (hm : m ≤ n) :
    ∃ A' : Option Addr, (∀ W : World, (Instr.slice t (.slice A n c) (some (.int kl (m : Int))) none none).run P W = .ok (.slice A' (n - m) (c - m)) W) ∧
      (∀ (w : World) (k : IntKind) (xs : List Int), n ≤ c → ReadsInt w k A n xs → ReadsInt w k A' (n - m) (xs.drop m)) ∧ (∀ ad', A' = some ad' → ∃ ad, A = some ad ∧ ad'.block = ad.block) := by
  refine ⟨if c = m then A else A.map (·.add m), fun W => ?_, fun w k xs hc h => h.drop_ m hm hc, fun ad' h => ?_⟩
  · have hel : P.elem t = e := by simp [Program.elem, ht]
    have hu : P.underlying t = some (.slice (P.elem t)) := by rw [hel]; exact ht
    rw [run_slice_l W t A n c hu kl (m : Int) (Int.natCast_nonneg _) (by omega), hel]
    simp [sizeOf, typeInfo, hi, hsz, sliced, Result.andThen]
  · split at h
    · exact ⟨ad', h, rfl⟩
    · obtain ⟨ad, h1, rfl⟩ := Option.map_eq_some_iff.1 h
      exact ⟨ad, h1, by unfold Addr.add; split <;> rfl⟩
/-- A reader at block g: made, failed, and the bytes that are left. -/
def Rdr (w0 W : World) (g : Nat) (made failed : Bool) (bs : List Int) : Prop :=
  w0.heap.size ≤ g ∧ ∃ A c, W.heap[g]? = some (.cells #[.bool made, .bool failed, .slice A bs.length c] 133 (0, 0)) ∧ bs.length ≤ c ∧ Rb W A bs ∧ bs.length < 140737488355328 ∧ U8 bs ∧ ∀ ad, A = some ad → ad.block < g
theorem Rdr.lower {w0 w1 W : World} {g : Nat} {m f : Bool} {bs : List Int} (h : Rdr w1 W g m f bs) (hs : w0.heap.size ≤ w1.heap.size) : Rdr w0 W g m f bs := ⟨Nat.le_trans hs h.1, h.2⟩
theorem cells_no_int {m f : Bool} {A : Option Addr} {n c : Nat} (i : Nat) (v : Value) (h : (#[Value.bool m, .bool f, .slice A n c] : Array Value)[i]? = some v) (k : Int) : v ≠ .int .u8 k := by
  match i, h with
  | 0, h => cases h; simp
  | 1, h => cases h; simp
  | 2, h => cases h; simp
theorem Rdr.below {w0 W W1 : World} {g : Nat} {m f : Bool} {bs : List Int} (h : Rdr w0 W g m f bs) (hb : Below W.heap.size W W1) : Rdr w0 W1 g m f bs := by
  obtain ⟨h0, A, c, h1, h2, h3, h4⟩ := h
  exact ⟨h0, A, c, (hb.block g (blk_lt h1)).trans h1, h2, Kd.C_below h3 hb, h4⟩
/-- Where another block alone was written, in which no numbers lie. -/
theorem Rdr.keep {w0 W W1 : World} {g g' : Nat} {m f : Bool} {bs : List Int} (h : Rdr w0 W g m f bs) (hk : KeepBut W W1 g' none) (hne : g ≠ g') {T : Nat} {cs : Array Value} (hb : W.heap[g']? = some (.cells cs T (0, 0))) (hcs : ∀ i : Nat, ∀ v, cs[i]? = some v → ∀ n, v ≠ Value.int .u8 n) : Rdr w0 W1 g m f bs := by
  obtain ⟨h0, A, c, h1, h2, h3, h4⟩ := h
  exact ⟨h0, A, c, hk.blk h1 hne (by simp), h2, reads_keep h3 hk (reads_ne hb hcs h3), h4⟩
theorem Rdr.grown {w0 W W1 : World} {g : Nat} {m f : Bool} {bs : List Int} {row : Option Nat} (h : Rdr w0 W g m f bs) (hg : W.grownBy W1 row) (hr : ∀ b, row = some b → g < b) : Rdr w0 W1 g m f bs := by
  obtain ⟨h0, A, c, h1, h2, h3, h4⟩ := h
  have hne : some g ≠ row := fun e => Nat.lt_irrefl g (hr g e.symm)
  refine ⟨h0, A, c, blk_grown h1 hg hne, h2, ?_, h4⟩
  cases row with
  | none => exact reads_keep h3 (KeepBut.of_grown hg W.heap.size) (fun ad e _ => by have := h4.2.2 ad e; have := blk_lt h1; omega)
  | some q =>
    have hk : KeepBut W W1 q none := ⟨hg.size, fun i hi h1 _ => hg.block i hi (fun e => h1 (Option.some.inj e))⟩
    exact reads_keep h3 hk (fun ad e _ => by have := h4.2.2 ad e; have := hr q rfl; omega)
theorem Rdr.set {w0 W : World} {g : Nat} {m f : Bool} {bs : List Int} (h : Rdr w0 W g m f bs) (f' : Bool) : Rdr w0 (W.setCell ⟨g, 1, none⟩ (.bool f')) g m f' bs := by
  obtain ⟨h0, A, c, h1, h2, h3, h4⟩ := h
  exact ⟨h0, A, c, by simpa using blk_set h1 1 (.bool f'), h2, reads_keep h3 (keep_set _ _ _ _) (reads_ne h1 cells_no_int h3), h4⟩
theorem Rdr.cut {w0 W : World} {g : Nat} {m f : Bool} {bs cs : List Int} (h : Rdr w0 W g m f bs) {A' : Option Addr} {c' : Nat} (hc : cs.length ≤ c') (hr : Rb W A' cs) (hl : cs.length ≤ bs.length) (hu : U8 cs) (hbl : ∀ ad, A' = some ad → ad.block < g) : Rdr w0 (W.setCell ⟨g, 2, none⟩ (.slice A' cs.length c')) g m f cs := by
  obtain ⟨h0, A, c, h1, h2, h3, h4⟩ := h
  exact ⟨h0, A', c', by simpa using blk_set h1 2 (.slice A' cs.length c'), hc, reads_keep hr (keep_set _ _ _ _) (reads_ne h1 cells_no_int hr), Nat.lt_of_le_of_lt hl h4.1, hu, hbl⟩

set_option maxHeartbeats 800000 in
set_option maxRecDepth 100000 in
theorem clone (A0 : Option Addr) (c0 : Nat) (l0 : List Int) (w : World) (hr0 : Kd.C (Kd.int .u8) w A0 l0.length l0) (hc0 : l0.length ≤ c0) (hl : l0.length < 140737488355328) :
    Calls Try.prog 119 #[.slice A0 l0.length c0] w fun e w' => ∃ v : Value, e = .returned v ∧ Kd.R (Kd.int .u8) 5 w' w.heap.size (fun _ => True) v l0 ∧ Below w.heap.size w w' := by
  have hq := fun (n c : Nat) => Lib.run_eql_slice_nil (P := Try.prog) w 27 5 A0 n c 0 0 Try.underlying27
  have HR := Aside0.mk hr0
  have HL := Aside0.mk hl
  have HC := Aside0.mk hc0
  clear hr0 hl hc0
  cases A0 with
  | none =>
    have hz : l0 = [] := by
      have h := HR.out
      cases l0 with
      | nil => rfl
      | cons x xs => obtain ⟨ad, c, e, _⟩ := Kd.C_get h 0 0 (by omega) (by simp); cases e
    subst hz
    clear HR HL HC
    go_enter Try.func119, Try.ntmps119
    go_wp2
    go_ret
    exact ⟨_, rfl, Kd.R_nil _ _ _ _ _, Below.refl _ _⟩
  | some a =>
    have HB := Aside0.mk (Below.refl w.heap.size w)
    go_enter Try.func119, Try.ntmps119
    go_wp2_with (first
      | ((with_reducible refine gate_dst (N := 5) rfl ?_); refine Kd.R_lit (Kd.int .u8) _ 5 ?hg (N := 5) ?hd (xs := ([] : List Int)) (inner := []) (ok := fun _ => True) (okp := fun _ => True) ?hr ?hp (fun _ hk => hk) trivial (Below.refl _ _) (Nat.le_refl _) (by simp) ?_; (case hd => rfl); (case hg => rfl); (case hr => first | (go_simp; done) | (go_simp; rfl)); (case hp => exact (Reps.none _ _)); intro v255 w3 ho4 hb hg_ hnew_; clear hg_ hnew_; have n0_ := Aside0.mk (Kd.R_lower ho4 (below_size HB.out)); have n1_ := Aside0.mk (below_step HB.out hb); clear HB; have HO := n0_; have HB := n1_; clear n0_ n1_; clear hb ho4)
      | ((with_reducible refine gate_builtin (b := .append) (xs := #[.tmp 5, .tmp 6]) rfl ?_); at_builtin; refine Kd.R_append_rows (Kd.int .u8) (w0 := w) w.heap.size rfl (.tmp 5) (.tmp 6) 27 5 (.int .u8 0) 1 rfl Try.underlying27 info_u8 rfl (by decide) (by omega) v255 [] l0 _ _ _ (fun _ => True) (fun _ => False) rfl rfl HO.out (Kd.C_below HR.out HB.out) (fun _ _ h => h) (fun _ h => h.elim) (fun _ _ => trivial) HB.out (below_size HB.out) (by have := HL.out; simp; omega) ?_; intro v258 w5 ho hb hg hat; have n0_ := Aside0.mk (hb); have n1_ := Aside0.mk (ho); clear HB; clear HO; have HB := n0_; have HO := n1_; clear n0_ n1_; clear ho hb hg hat))
    go_ret
    exact ⟨_, rfl, HO.out, HB.out⟩

theorem clone_n (A0 : Option Addr) (c0 n : Nat) (l0 : List Int) (w : World) (hr0 : Rb w A0 l0) (hn : l0.length = n) (hc0 : n ≤ c0) (hl : n < 140737488355328) :
    Calls Try.prog 119 #[.slice A0 n c0] w fun e w' => ∃ v : Value, e = .returned v ∧ Ob w' w.heap.size v l0 ∧ Below w.heap.size w w' := by
  subst hn
  exact clone A0 c0 l0 w hr0 hc0 hl

set_option maxHeartbeats 800000 in
set_option maxRecDepth 100000 in
theorem new_ (A0 : Option Addr) (c0 : Nat) (l0 : List Int) (w : World) (hr0 : Rb w A0 l0) (hc0 : l0.length ≤ c0) (hl : l0.length < 140737488355328) (hu : U8 l0) :
    Calls Try.prog 86 #[.slice A0 l0.length c0] w fun e w' => ∃ g : Nat, e = .returned (.pointer (some ⟨g, 0, none⟩)) ∧ Rdr w w' g true false l0 ∧ Below w.heap.size w w' := by
  have HR := Aside0.mk hr0
  have HL := Aside0.mk hl
  have HC := Aside0.mk hc0
  have HU := Aside0.mk hu
  clear hr0 hl hc0 hu
  go_enter Try.func86, Try.ntmps86
  go_wp2_with (go_at_call 119; refine (clone A0 c0 l0 _ HR.out HC.out HL.out).mono ?_; rintro e w1 ⟨v, rfl, ho, hb⟩; obtain ⟨A, c, rfl, hlc, hrd⟩ := Kd.R_reads ho; have HLT := Aside0.mk (show ∀ ad, A = some ad → ad.block < w1.heap.size from fun ad e => Kd.R_lt ho ad.block (by rw [e]; rfl)); have HO := Aside0.mk hrd; have HLC := Aside0.mk hlc; have HB := Aside0.mk hb; clear hrd hlc hb ho)
  go_ret
  refine ⟨_, rfl, ⟨HB.out.size, A, c, ?_, HLC.out, Kd.C_alloc HO.out _, HL.out, HU.out, HLT.out⟩, below_alloc HB.out _⟩
  exact blk_new _ _

set_option maxHeartbeats 800000 in
set_option maxRecDepth 100000 in
theorem ok_ (w0 w : World) (g : Nat) (m f : Bool) (bs : List Int) (h : Rdr w0 w g m f bs) :
    Calls Try.prog 89 #[.pointer (some ⟨g, 0, none⟩)] w fun e w' => e = .returned (.bool (m && !f)) ∧ w = w' := by
  obtain ⟨_, A, c, h1, _⟩ := h
  have hc0 := (blk_cell h1 0).trans rfl
  have hc1 := (blk_cell h1 1).trans rfl
  clear h1
  cases m <;> cases f
  all_goals
    go_enter Try.func89, Try.ntmps89
    go_wp2
    go_ret
    exact ⟨rfl, rfl⟩
set_option maxHeartbeats 800000 in
theorem fail_ (w0 w : World) (g : Nat) (m f : Bool) (bs : List Int) (h : Rdr w0 w g m f bs) :
    Calls Try.prog 121 #[.pointer (some ⟨g, 0, none⟩)] w fun e w' => e = .returned (.tuple #[]) ∧ w' = w.setCell ⟨g, 1, none⟩ (.bool true) := by
  obtain ⟨_, A, c, h1, _⟩ := h
  have hc1 := (blk_cell h1 1).trans rfl
  have hf1 := blk_frozen h1 1
  clear h1
  go_enter Try.func121, Try.ntmps121
  go_wp2
  go_end0
  exact ⟨rfl, rfl⟩
set_option maxHeartbeats 800000 in
theorem left_ (w0 w : World) (g : Nat) (m f : Bool) (bs : List Int) (h : Rdr w0 w g m f bs) :
    Calls Try.prog 92 #[.pointer (some ⟨g, 0, none⟩)] w fun e w' => e = .returned (.int .i64 (if m && !f then (bs.length : Int) else 0)) ∧ w = w' := by
  have HI := Aside0.mk h
  obtain ⟨_, A, c, h1, _⟩ := h
  have hc2 : w.cell? ⟨g, 2, none⟩ = some (.slice A bs.length c) := (blk_cell h1 2).trans rfl
  clear h1
  cases m <;> cases f
  all_goals
    go_enter Try.func92, Try.ntmps92
    go_wp2_with (go_at_call 89; refine (ok_ w0 w g _ _ bs HI.out).mono ?_; rintro e w' ⟨rfl, rfl⟩)
    go_ret
    exact ⟨rfl, rfl⟩

set_option maxHeartbeats 1600000 in
set_option maxRecDepth 100000 in
theorem take_bad (w0 w : World) (g : Nat) (m f : Bool) (bs : List Int) (n : Int) (h : Rdr w0 w g m f bs) (hB : Below w0.heap.size w0 w) (hbad : ¬ (m = true ∧ f = false ∧ 0 ≤ n ∧ n ≤ bs.length)) :
    Calls Try.prog 91 #[.pointer (some ⟨g, 0, none⟩), .int .i64 n] w fun e w' => ∃ v, e = .returned v ∧ Ob w' w.heap.size v [] ∧ Rdr w0 w' g m true bs ∧ Below w0.heap.size w0 w' ∧ KeepBut w w' g none := by
  have HI := Aside0.mk h
  have HB := Aside0.mk hB
  clear hB
  have hfin : Rdr w0 (w.setCell ⟨g, 1, none⟩ (.bool true)) g m true bs ∧ Below w0.heap.size w0 (w.setCell ⟨g, 1, none⟩ (.bool true)) ∧ KeepBut w (w.setCell ⟨g, 1, none⟩ (.bool true)) g none := ⟨h.set true, below_set HB.out h.1, keep_set _ _ _ _⟩
  have HF := Aside0.mk hfin
  clear hfin
  obtain ⟨_, A, c, h1, _⟩ := h
  have hc2 : w.cell? ⟨g, 2, none⟩ = some (.slice A bs.length c) := (blk_cell h1 2).trans rfl
  clear h1
  by_cases hok : m = true ∧ f = false
  · obtain ⟨rfl, rfl⟩ := hok
    by_cases hn : n < 0
    · have hd : decide (n < 0) = true := decide_eq_true hn
      clear hbad hn
      go_enter Try.func91, Try.ntmps91
      go_wp2_with (first | (go_at_call 89; refine (ok_ w0 w g true false bs HI.out).mono ?_; rintro e w' ⟨rfl, rfl⟩) | (go_at_call 121; refine (fail_ w0 w g true false bs HI.out).mono ?_; rintro e w' ⟨rfl, rfl⟩))
      go_ret
      exact ⟨_, rfl, Kd.R_nil _ _ _ _ _, HF.out⟩
    · have hd : decide (n < 0) = false := decide_eq_false hn
      have hg : decide ((bs.length : Int) < n) = true := decide_eq_true (by
        by_cases h2 : (bs.length : Int) < n
        · exact h2
        · exact absurd ⟨rfl, rfl, by omega, by omega⟩ hbad)
      clear hbad hn
      go_enter Try.func91, Try.ntmps91
      go_wp2_with (first | (go_at_call 89; refine (ok_ w0 w g true false bs HI.out).mono ?_; rintro e w' ⟨rfl, rfl⟩) | (go_at_call 121; refine (fail_ w0 w g true false bs HI.out).mono ?_; rintro e w' ⟨rfl, rfl⟩))
      go_ret
      exact ⟨_, rfl, Kd.R_nil _ _ _ _ _, HF.out⟩
  · clear hbad
    have hb : (m && !f) = false := by cases m <;> cases f <;> simp_all
    clear hok
    go_enter Try.func91, Try.ntmps91
    go_wp2_with (first | (go_at_call 89; refine (ok_ w0 w g m f bs HI.out).mono ?_; rintro e w' ⟨rfl, rfl⟩) | (go_at_call 121; refine (fail_ w0 w g m f bs HI.out).mono ?_; rintro e w' ⟨rfl, rfl⟩))
    go_ret
    exact ⟨_, rfl, Kd.R_nil _ _ _ _ _, HF.out⟩

set_option maxHeartbeats 1600000 in
set_option maxRecDepth 100000 in
theorem take_good (w0 w : World) (g : Nat) (bs : List Int) (n : Nat) (h : Rdr w0 w g true false bs) (hB : Below w0.heap.size w0 w) (hn : n ≤ bs.length) :
    Calls Try.prog 91 #[.pointer (some ⟨g, 0, none⟩), .int .i64 n] w fun e w' => ∃ v, e = .returned v ∧ Ob w' w.heap.size v (bs.take n) ∧ Rdr w0 w' g true false (bs.drop n) ∧ Below w0.heap.size w0 w' ∧ KeepBut w w' g none := by
  have HI := Aside0.mk h
  have HB := Aside0.mk hB
  clear hB
  obtain ⟨hg0, A, c, h1, h2, h3, h4⟩ := h
  have hnn : (0 : Int) ≤ (n : Int) := Int.natCast_nonneg _
  have hnc : (n : Int) ≤ (c : Int) := by omega
  have hd0 : decide ((n : Int) < 0) = false := decide_eq_false (by omega)
  have hd1 : decide ((bs.length : Int) < (n : Int)) = false := decide_eq_false (by omega)
  have hd2 : decide (bs.length < n) = false := decide_eq_false (by omega)
  have H1 := Aside0.mk h1
  have hc2 : w.cell? ⟨g, 2, none⟩ = some (.slice A bs.length c) := (blk_cell h1 2).trans rfl
  have hf2 := blk_frozen h1 2
  have h3' := Kd.reads_of_C (d := (0 : Int)) h3
  have hlen : bs.length ≤ 9223372036854775807 := h3'.2.1
  obtain ⟨i0, hi, hz0, hz1, hz2⟩ := info_parts info_u8
  obtain ⟨A', hcut, hA', hbk⟩ := cut2 (P := Try.prog) 27 5 .i64 Try.underlying27 hi hz1 A bs.length c n hn
  have hrest : Rb w A' (bs.drop n) := by
    have := Kd.C_of_reads (d := (0 : Int)) (h1 := fun _ => rfl) (hA' w .u8 bs h2 h3')
    rwa [← List.length_drop] at this
  have hfirst : Rb w A (bs.take n) := by
    have h5 := Kd.C_of_reads (d := (0 : Int)) (h1 := fun _ => rfl) (ReadsInt.take_ h3' n hn)
    show Kd.C _ w A (bs.take n).length (bs.take n)
    rw [show (bs.take n).length = n from by rw [List.length_take]; omega]
    exact h5
  have hR := (show Rdr w0 w g true false bs from ⟨hg0, A, c, h1, h2, h3, h4⟩).cut (c' := c - n) (by rw [List.length_drop]; omega) hrest (by rw [List.length_drop]; omega) (h4.2.1.drop n) (fun ad' e => by obtain ⟨ad, e2, e3⟩ := hbk ad' e; rw [e3]; exact h4.2.2 ad e2)
  rw [List.length_drop] at hR
  have HRd := Aside0.mk hR
  have HF := Aside0.mk (reads_keep hfirst (keep_set w g 2 (.slice A' (bs.length - n) (c - n))) (reads_ne h1 cells_no_int hfirst))
  have HBn := Aside0.mk (below_set (j := 2) (v := .slice A' (bs.length - n) (c - n)) HB.out hg0)
  have HKn := Aside0.mk (keep_set w g 2 (.slice A' (bs.length - n) (c - n)))
  have HTL := Aside0.mk (show (bs.take n).length = n by rw [List.length_take]; omega)
  have HBL := Aside0.mk (show n < 140737488355328 by have := h4.1; omega)
  clear hR hrest hfirst h1 h3 h4 hbk hA' h3' hi hz0 hz1 hz2 hg0
  go_enter Try.func91, Try.ntmps91
  go_wp2_with (first | (go_at_call 89; refine (ok_ w0 w g true false bs HI.out).mono ?_; rintro e w' ⟨rfl, rfl⟩) | (go_at_call 119; refine (clone_n A n n (bs.take n) _ HF.out HTL.out (Nat.le_refl _) HBL.out).mono ?_; rintro e w1 ⟨v, rfl, ho, hb⟩; have HO := Aside0.mk ho; have HW := Aside0.mk hb; clear ho hb))
  go_ret
  refine ⟨_, rfl, Kd.R_lower HO.out HKn.out.1, HRd.out.below HW.out, HBn.out.trans (HW.out.mono HBn.out.size), HKn.out.trans (KeepBut.of_below HW.out g none) (.inl rfl)⟩

/-- A reader's state: the bytes that are left, or that it failed. -/
def RdO (w0 W : World) (g : Nat) (st : Option (List Int)) : Prop :=
  match st with
  | some bs => Rdr w0 W g true false bs
  | none => ∃ m f bs, (m && !f) = false ∧ Rdr w0 W g m f bs
theorem RdO.any {w0 W : World} {g : Nat} {st : Option (List Int)} (h : RdO w0 W g st) : ∃ m f bs, (m && !f) = st.isSome ∧ Rdr w0 W g m f bs := by
  cases st with
  | some bs => exact ⟨true, false, bs, rfl, h⟩
  | none => exact h
theorem RdO.below {w0 W W1 : World} {g : Nat} {st : Option (List Int)} (h : RdO w0 W g st) (hb : Below W.heap.size W W1) : RdO w0 W1 g st := by
  cases st with
  | some bs => exact Rdr.below h hb
  | none => obtain ⟨m, f, bs, e, h⟩ := h; exact ⟨m, f, bs, e, h.below hb⟩
theorem RdO.keep {w0 W W1 : World} {g g' : Nat} {st : Option (List Int)} (h : RdO w0 W g st) (hk : KeepBut W W1 g' none) (hne : g ≠ g') {T : Nat} {cs : Array Value} (hb : W.heap[g']? = some (.cells cs T (0, 0))) (hcs : ∀ i : Nat, ∀ v, cs[i]? = some v → ∀ n, v ≠ Value.int .u8 n) : RdO w0 W1 g st := by
  cases st with
  | some bs => exact Rdr.keep h hk hne hb hcs
  | none => obtain ⟨m, f, bs, e, h⟩ := h; exact ⟨m, f, bs, e, h.keep hk hne hb hcs⟩
theorem RdO.grown {w0 W W1 : World} {g : Nat} {st : Option (List Int)} {row : Option Nat} (h : RdO w0 W g st) (hg : W.grownBy W1 row) (hr : ∀ b, row = some b → g < b) : RdO w0 W1 g st := by
  cases st with
  | some bs => exact Rdr.grown h hg hr
  | none => obtain ⟨m, f, bs, e, h⟩ := h; exact ⟨m, f, bs, e, h.grown hg hr⟩
theorem RdO.lower {w0 w1 W : World} {g : Nat} {st : Option (List Int)} (h : RdO w1 W g st) (hs : w0.heap.size ≤ w1.heap.size) : RdO w0 W g st := by
  cases st with
  | some bs => exact Rdr.lower h hs
  | none => obtain ⟨m, f, bs, e, h⟩ := h; exact ⟨m, f, bs, e, h.lower hs⟩
theorem RdO.blk {w0 W : World} {g : Nat} {st : Option (List Int)} (h : RdO w0 W g st) : w0.heap.size ≤ g ∧ g < W.heap.size ∧ ∃ cs, W.heap[g]? = some (.cells cs 133 (0, 0)) ∧ ∀ i : Nat, ∀ v, cs[i]? = some v → ∀ n, v ≠ Value.int .u8 n := by
  obtain ⟨m, f, bs, _, h0, A, c, h1, _⟩ := h.any
  exact ⟨h0, blk_lt h1, _, h1, cells_no_int⟩
theorem RdO.u8 {w0 W : World} {g : Nat} {bs : List Int} (h : RdO w0 W g (some bs)) : U8 bs ∧ bs.length < 140737488355328 := by
  obtain ⟨_, _, _, _, _, _, h1, h2⟩ := (show Rdr w0 W g true false bs from h)
  exact ⟨h2.1, h1⟩
/-- What a call that is handed a reader leaves. -/
def Left (w0 w w' : World) (g : Nat) (st : Option (List Int)) : Prop := RdO w0 w' g st ∧ Below w0.heap.size w0 w' ∧ KeepBut w w' g none
theorem Left.trans {w0 w w1 w2 : World} {g : Nat} {s1 s2 : Option (List Int)} (h : Left w0 w w1 g s1) (k : Left w0 w1 w2 g s2) : Left w0 w w2 g s2 := ⟨k.1, k.2.1, h.2.2.trans k.2.2 (.inl rfl)⟩
theorem Left.refl {w0 w : World} {g : Nat} {st : Option (List Int)} (h : RdO w0 w g st) (hB : Below w0.heap.size w0 w) : Left w0 w w g st := ⟨h, hB, KeepBut.refl _ _ _⟩

theorem okO (w0 w : World) (g : Nat) (st : Option (List Int)) (h : RdO w0 w g st) :
    Calls Try.prog 89 #[.pointer (some ⟨g, 0, none⟩)] w fun e w' => e = .returned (.bool st.isSome) ∧ w = w' := by
  obtain ⟨m, f, bs, e, h⟩ := h.any
  rw [← e]
  exact ok_ w0 w g m f bs h
theorem leftO_ (w0 w : World) (g : Nat) (st : Option (List Int)) (h : RdO w0 w g st) :
    Calls Try.prog 92 #[.pointer (some ⟨g, 0, none⟩)] w fun e w' => e = .returned (.int .i64 (leftO st)) ∧ w = w' := by
  cases st with
  | some bs => exact left_ w0 w g true false bs h
  | none =>
    obtain ⟨m, f, bs, e, h⟩ := h
    have := left_ w0 w g m f bs h
    rw [e] at this
    exact this
theorem failO (w0 w : World) (g : Nat) (st : Option (List Int)) (h : RdO w0 w g st) (hB : Below w0.heap.size w0 w) :
    Calls Try.prog 121 #[.pointer (some ⟨g, 0, none⟩)] w fun e w' => e = .returned (.tuple #[]) ∧ Left w0 w w' g none := by
  obtain ⟨m, f, bs, e, h⟩ := h.any
  refine (fail_ w0 w g m f bs h).mono ?_
  rintro e w' ⟨rfl, rfl⟩
  exact ⟨rfl, ⟨m, true, bs, by cases m <;> rfl, h.set true⟩, below_set hB h.1, keep_set _ _ _ _⟩
theorem takeO_ (w0 w : World) (g : Nat) (st : Option (List Int)) (n : Int) (h : RdO w0 w g st) (hB : Below w0.heap.size w0 w) :
    Calls Try.prog 91 #[.pointer (some ⟨g, 0, none⟩), .int .i64 n] w fun e w' => ∃ v, e = .returned v ∧ Ob w' w.heap.size v (takeO st n).1 ∧ Left w0 w w' g (takeO st n).2 := by
  cases st with
  | some bs =>
    by_cases hn : 0 ≤ n ∧ n ≤ bs.length
    · obtain ⟨m, rfl⟩ := Int.eq_ofNat_of_zero_le hn.1
      have e : takeO (some bs) (m : Int) = (bs.take m, some (bs.drop m)) := by simp only [takeO]; rw [if_pos hn]; rfl
      rw [e]
      refine (take_good w0 w g bs m h hB (by omega)).mono ?_
      rintro e w' ⟨v, rfl, h1, h2, h3, h4⟩
      exact ⟨v, rfl, h1, h2, h3, h4⟩
    · have e : takeO (some bs) n = ([], none) := by simp only [takeO]; rw [if_neg hn]
      rw [e]
      refine (take_bad w0 w g true false bs n h hB (fun h => hn h.2.2)).mono ?_
      rintro e w' ⟨v, rfl, h1, h2, h3, h4⟩
      exact ⟨v, rfl, h1, ⟨_, _, _, rfl, h2⟩, h3, h4⟩
  | none =>
    obtain ⟨m, f, bs, e, h⟩ := h
    refine (take_bad w0 w g m f bs n h hB (fun h => by obtain ⟨rfl, rfl, _⟩ := h; cases e)).mono ?_
    rintro e w' ⟨v, rfl, h1, h2, h3, h4⟩
    exact ⟨v, rfl, h1, ⟨_, _, _, by cases m <;> rfl, h2⟩, h3, h4⟩
theorem newO (A0 : Option Addr) (c0 : Nat) (l0 : List Int) (w : World) (hr0 : Rb w A0 l0) (hc0 : l0.length ≤ c0) (hl : l0.length < 140737488355328) (hu : U8 l0) :
    Calls Try.prog 86 #[.slice A0 l0.length c0] w fun e w' => ∃ g : Nat, e = .returned (.pointer (some ⟨g, 0, none⟩)) ∧ RdO w w' g (some l0) ∧ Below w.heap.size w w' := new_ A0 c0 l0 w hr0 hc0 hl hu
end Go.Proofs.Ytgdpabedlghiaaa.Tlv
/- The walks of a reader's Num, Count and Text. -/
namespace Go.Proofs.Ytgdpabedlghiaaa.Tlv
open Go.Proofs.Ytgdpabedlghiaaa.Base Go.Proofs.Ytgdpabedlghiaaa.TlvPlain Go.RowKit Go.Proofs.YtgdpabedlghiaaaW.PrintWords Go.Proofs.YtgdpabedlghiaaaW.PrintLast Go.Proofs.YtgdpabedlghiaaaW.PrintMore

theorem take1_cons (x : Int) (r : List Int) : takeO (some (x :: r)) 1 = ([x], some r) := by
  simp only [takeO]
  rw [if_pos (by rw [List.length_cons]; omega)]
  rfl
set_option maxHeartbeats 1600000 in
set_option maxRecDepth 100000 in
theorem num_none (w0 w : World) (g : Nat) (st : Option (List Int)) (h : RdO w0 w g st) (hB : Below w0.heap.size w0 w) (hst : takeO st 1 = ([], none)) :
    Calls Try.prog 120 #[.pointer (some ⟨g, 0, none⟩)] w fun e w' => e = .returned (.int .u64 0) ∧ Left w0 w w' g none := by
  have HS := Aside0.mk h
  have HB := Aside0.mk hB
  have E1 := Aside0.mk hst
  clear h hB hst
  go_enter Try.func120, Try.ntmps120
  go_wp2_with (first
    | (go_at_call 91; refine (takeO_ _ _ _ _ _ HS.out HB.out).mono ?_; rintro e w1 ⟨v, rfl, ho, hl⟩; rw [E1.out] at ho hl; have HL := Aside0.mk hl; clear ho hl)
    | (go_at_call 89; refine (okO _ _ _ _ HL.out.1).mono ?_; rintro e w' ⟨rfl, rfl⟩)
    | (go_at_call 121; refine (failO _ _ _ _ HL.out.1 HL.out.2.1).mono ?_; rintro e w2 ⟨rfl, hf⟩; have HF := Aside0.mk hf; clear hf))
  go_ret
  exact ⟨rfl, HL.out.trans HF.out⟩

set_option maxHeartbeats 1600000 in
set_option maxRecDepth 100000 in
theorem num_wide (w0 w : World) (g : Nat) (x : Int) (r : List Int) (h : RdO w0 w g (some (x :: r))) (hB : Below w0.heap.size w0 w) (hx : 8 < x) :
    Calls Try.prog 120 #[.pointer (some ⟨g, 0, none⟩)] w fun e w' => e = .returned (.int .u64 0) ∧ Left w0 w w' g none := by
  have HS := Aside0.mk h
  have HB := Aside0.mk hB
  have E1 := Aside0.mk (take1_cons x r)
  have hd : decide (8 < x) = true := decide_eq_true hx
  clear h hB hx
  go_enter Try.func120, Try.ntmps120
  go_wp2_with (first
    | (go_at_call 91; refine (takeO_ _ _ _ _ _ HS.out HB.out).mono ?_; rintro e w1 ⟨v, rfl, ho, hl⟩; rw [E1.out] at ho hl; have HL := Aside0.mk hl; obtain ⟨A, c, rfl, hlc, hrd⟩ := Ob.reads ho; obtain ⟨ad, rfl, hc0⟩ := Rb.at0 hrd; clear ho hl hrd hlc)
    | (go_at_call 89; refine (okO _ _ _ _ HL.out.1).mono ?_; rintro e w' ⟨rfl, rfl⟩)
    | (go_at_call 121; refine (failO _ _ _ _ HL.out.1 HL.out.2.1).mono ?_; rintro e w2 ⟨rfl, hf⟩; have HF := Aside0.mk hf; clear hf))
  go_ret
  exact ⟨rfl, HL.out.trans HF.out⟩

set_option maxHeartbeats 1600000 in
set_option maxRecDepth 100000 in
theorem num_short (w0 w : World) (g : Nat) (x : Int) (r : List Int) (h : RdO w0 w g (some (x :: r))) (hB : Below w0.heap.size w0 w) (hx0 : 0 ≤ x) (hx : x ≤ 8) (hl : (r.length : Int) < x) :
    Calls Try.prog 120 #[.pointer (some ⟨g, 0, none⟩)] w fun e w' => e = .returned (.int .u64 0) ∧ Left w0 w w' g none := by
  have HS := Aside0.mk h
  have HB := Aside0.mk hB
  have E1 := Aside0.mk (take1_cons x r)
  have E2 := Aside0.mk (show takeO (some r) x = ([], none) by simp only [takeO]; rw [if_neg (by omega)])
  have hd : decide (8 < x) = false := decide_eq_false (by omega)
  clear h hB hl
  go_enter Try.func120, Try.ntmps120
  go_wp2_with (fail)
  refine (takeO_ _ _ _ _ _ HS.out HB.out).mono ?_; rintro e w1 ⟨v, rfl, ho, hl⟩; rw [E1.out] at ho hl; have HL := Aside0.mk hl; obtain ⟨A, c, rfl, hlc, hrd⟩ := Ob.reads ho; obtain ⟨ad, rfl, hc0⟩ := Rb.at0 hrd; clear ho hl hrd hlc
  go_wp2_with (first
    | (go_at_call 89; refine (okO _ _ _ _ HL.out.1).mono ?_; rintro e w' ⟨rfl, rfl⟩)
    | (go_at_call 121; refine (failO _ _ _ _ HL.out.1 HL.out.2.1).mono ?_; rintro e w2 ⟨rfl, hf⟩; have HF := Aside0.mk hf; clear hf))
  refine (takeO_ _ _ _ _ _ HL.out.1 HL.out.2.1).mono ?_; rintro e w2 ⟨v, rfl, ho, hl⟩; rw [E2.out] at ho hl; have HL2 := Aside0.mk (HL.out.trans hl); clear HL ho hl
  go_wp2_with (first
    | (go_at_call 89; refine (okO _ _ _ _ HL2.out.1).mono ?_; rintro e w' ⟨rfl, rfl⟩)
    | (go_at_call 121; refine (failO _ _ _ _ HL2.out.1 HL2.out.2.1).mono ?_; rintro e w2 ⟨rfl, hf⟩; have HF := Aside0.mk hf; clear hf))
  go_ret
  exact ⟨rfl, HL2.out.trans HF.out⟩

set_option maxHeartbeats 1600000 in
set_option maxRecDepth 100000 in
theorem num_zero (w0 w : World) (g : Nat) (x y : Int) (r : List Int) (h : RdO w0 w g (some (x :: y :: r))) (hB : Below w0.heap.size w0 w) (hx0 : 0 < x) (hx : x ≤ 8) (hl : x ≤ (r.length : Int) + 1) (hy : y = 0) :
    Calls Try.prog 120 #[.pointer (some ⟨g, 0, none⟩)] w fun e w' => e = .returned (.int .u64 0) ∧ Left w0 w w' g none := by
  subst hy
  have HS := Aside0.mk h
  have HB := Aside0.mk hB
  have E1 := Aside0.mk (take1_cons x (0 :: r))
  have E2 := Aside0.mk (show takeO (some (0 :: r)) x = (0 :: r.take (x.toNat - 1), some ((0 :: r).drop x.toNat)) by
    simp only [takeO]
    rw [if_pos (by rw [List.length_cons]; omega)]
    obtain ⟨m, hm⟩ : ∃ m, x.toNat = m + 1 := ⟨x.toNat - 1, by omega⟩
    rw [hm]; rfl)
  have hd : decide (8 < x) = false := decide_eq_false (by omega)
  clear h hB hl
  go_enter Try.func120, Try.ntmps120
  go_wp2_with (fail)
  refine (takeO_ _ _ _ _ _ HS.out HB.out).mono ?_; rintro e w1 ⟨v, rfl, ho, hl⟩; rw [E1.out] at ho hl; have HL := Aside0.mk hl; obtain ⟨A, c, rfl, hlc, hrd⟩ := Ob.reads ho; obtain ⟨ad, rfl, hc0⟩ := Rb.at0 hrd; clear ho hl hrd hlc
  go_wp2_with (first
    | (go_at_call 89; refine (okO _ _ _ _ HL.out.1).mono ?_; rintro e w' ⟨rfl, rfl⟩))
  refine (takeO_ _ _ _ _ _ HL.out.1 HL.out.2.1).mono ?_; rintro e w2 ⟨v, rfl, ho, hl⟩; rw [E2.out] at ho hl; have HL2 := Aside0.mk (HL.out.trans hl); obtain ⟨A2, c2, rfl, hlc, hrd⟩ := Ob.reads ho; obtain ⟨ad2, rfl, hc2⟩ := Rb.at0 hrd; clear HL ho hl hlc hrd
  have hl0 : decide (0 < (0 :: r.take (x.toNat - 1)).length) = true := decide_eq_true (by simp)
  generalize (0 :: r.take (x.toNat - 1)).length = nn at hl0 ⊢
  have hl2 : 0 < nn := of_decide_eq_true hl0
  have hl1 : decide (0 < (nn : Int)) = true := decide_eq_true (by omega)
  go_wp2_with (first
    | (go_at_call 89; refine (okO _ _ _ _ HL2.out.1).mono ?_; rintro e w' ⟨rfl, rfl⟩)
    | (go_at_call 121; refine (failO _ _ _ _ HL2.out.1 HL2.out.2.1).mono ?_; rintro e w2 ⟨rfl, hf⟩; have HF := Aside0.mk hf; clear hf))
  go_ret
  exact ⟨rfl, HL2.out.trans HF.out⟩

/-- One round more: the value of one byte more. -/
theorem value_step {l : List Int} (hu : U8 l) (h8 : l.length ≤ 8) (i : Nat) (hi : i < l.length) :
    Go.bits .or .u64 (IntKind.u64.wrap (valueB (l.take i) * 256)) (IntKind.u64.wrap (rd l (i : Int))) = valueB (l.take (i + 1)) := by
  have h1 := valueB_range (hu.take i)
  rw [List.length_take, Nat.min_eq_left (by omega)] at h1
  have h2 := valueB_u64 (hu.take (i + 1)) (by rw [List.length_take]; omega)
  have hx := hu _ (List.getElem_mem hi)
  rw [rd_nat' l i hi, List.take_succ_eq_append_getElem hi, valueB_snoc]
  rw [List.take_succ_eq_append_getElem hi, valueB_snoc] at h2
  have hb : valueB (l.take i) * 256 + 255 ≤ 18446744073709551615 := by
    have key : ∀ n : Nat, n ≤ 7 → (256 : Int) ^ n ≤ 72057594037927936 := by
      intro n hn
      have : n = 0 ∨ n = 1 ∨ n = 2 ∨ n = 3 ∨ n = 4 ∨ n = 5 ∨ n = 6 ∨ n = 7 := by omega
      rcases this with rfl | rfl | rfl | rfl | rfl | rfl | rfl | rfl <;> decide +kernel
    have := key i (by omega)
    omega
  rw [IntWalk.u64_in (valueB (l.take i) * 256) (by omega), IntWalk.u64_in l[i] (by omega)]
  exact or_byte _ _ h1.1 hb hx.1 hx.2

set_option maxHeartbeats 3200000 in
set_option maxRecDepth 100000 in
theorem num_good (w0 w : World) (g : Nat) (x : Int) (r : List Int) (h : RdO w0 w g (some (x :: r))) (hB : Below w0.heap.size w0 w) (hx0 : 0 ≤ x) (hx : x ≤ 8) (hl : x ≤ (r.length : Int)) (hy : ¬ (0 < x ∧ r.getD 0 0 = 0)) :
    Calls Try.prog 120 #[.pointer (some ⟨g, 0, none⟩)] w fun e w' => e = .returned (.int .u64 (valueB (r.take x.toNat))) ∧ Left w0 w w' g (some (r.drop x.toNat)) := by
  have HS := Aside0.mk h
  have HB := Aside0.mk hB
  have HU := Aside0.mk ((h.u8.1.tail).take x.toNat)
  have E1 := Aside0.mk (take1_cons x r)
  have E2 := Aside0.mk (show takeO (some r) x = (r.take x.toNat, some (r.drop x.toNat)) by simp only [takeO]; rw [if_pos ⟨hx0, hl⟩])
  obtain ⟨l, hL⟩ : ∃ l, l = r.take x.toNat := ⟨_, rfl⟩
  have hlen : l.length = x.toNat := by rw [hL, List.length_take]; omega
  have hb : (decide (0 < l.length) && (rd l 0 == 0)) = false := by
    rw [Bool.and_eq_false_iff]
    by_cases h0 : 0 < x
    · right
      rw [beq_eq_false_iff_ne]
      intro e
      apply hy
      refine ⟨h0, ?_⟩
      rw [hL] at e
      obtain ⟨m, hm⟩ : ∃ m, x.toNat = m + 1 := ⟨x.toNat - 1, by omega⟩
      cases r with
      | nil => simp at hl; omega
      | cons y r => simpa [rd, hm] using e
    · left
      exact decide_eq_false (by omega)
  rw [← hL] at HU E2 ⊢
  have h8 : l.length ≤ 8 := by omega
  have hd : decide (8 < x) = false := decide_eq_false (by omega)
  clear h hB hl hy hL hlen
  go_enter Try.func120, Try.ntmps120
  go_wp2_with (fail)
  refine (takeO_ _ _ _ _ _ HS.out HB.out).mono ?_; rintro e w1 ⟨v, rfl, ho, hl⟩; rw [E1.out] at ho hl; have HL := Aside0.mk hl; obtain ⟨A, c, rfl, hlc, hrd⟩ := Ob.reads ho; obtain ⟨ad, rfl, hc0⟩ := Rb.at0 hrd; clear ho hl hrd hlc
  go_wp2_with (first
    | (go_at_call 89; refine (okO _ _ _ _ HL.out.1).mono ?_; rintro e w' ⟨rfl, rfl⟩))
  refine (takeO_ _ _ _ _ _ HL.out.1 HL.out.2.1).mono ?_; rintro e w2 ⟨v, rfl, ho, hl⟩; rw [E2.out] at ho hl; have HL2 := Aside0.mk (HL.out.trans hl); obtain ⟨A2, c2, rfl, hlc, hrd⟩ := Ob.reads ho; have HRD := Aside0.mk hrd; clear HL ho hl hlc hrd hx0
  by_cases hz : 0 < l.length
  · have hzi : (0 : Int) < (l.length : Int) := by omega
    obtain ⟨ad2, hA2, hc2⟩ := Kd.at_int HRD.out 0 (Int.le_refl _) hzi
    subst hA2
    have hz0 : decide (0 < l.length) = true := decide_eq_true hz
    have hz1 : decide (0 < (l.length : Int)) = true := decide_eq_true (by omega)
    have hb1 : (rd l 0 == 0) = false := by rw [hz0, Bool.true_and] at hb; exact hb
    have hc3 : w2.cell? ad2 = some (.int .u8 (rd l 0)) := by simpa [Addr.add] using hc2
    clear hb hc2
    go_wp2_with (first
      | (go_at_call 89; refine (okO _ _ _ _ HL2.out.1).mono ?_; rintro e w' ⟨rfl, rfl⟩))
    clear hz0 hz1 hb1 hc3 hzi
    go_loop [5, 45] (fun n i => ∃ k : Nat, k ≤ l.length ∧ i = .int .i64 k ∧ n = .int .u64 (valueB (l.take k))) (fun _ i => l.length - (intOf i).toNat)
    case atStart => exact ⟨0, Nat.zero_le _, rfl, rfl⟩
    case round =>
      obtain ⟨k, hk, rfl, rfl⟩ := hrel
      by_cases hlt : k < l.length
      · obtain ⟨ad3, hA3, hc3⟩ := Kd.at_int HRD.out (k : Int) (Int.natCast_nonneg k) (by omega)
        injection hA3 with hA3
        subst hA3
        rw [Int.toNat_natCast] at hc3
        have HV := Aside0.mk (value_step HU.out h8 k hlt)
        go_wp2
        go_round
        case rel => exact ⟨k + 1, by omega, by go_num, by rw [← HV.out]⟩
        case measure => simp [intOf]; omega
      · go_wp2
        go_ret
        have hkl : k = l.length := by omega
        exact ⟨by rw [hkl, List.take_length]; rfl, HL2.out⟩
  · have hz0 : decide (0 < l.length) = false := decide_eq_false hz
    have hl0 : l = [] := List.length_eq_zero_iff.1 (by omega)
    subst hl0
    clear hb hz hz0 h8
    have hf0 : decide ((0 : Int) < 0) = false := rfl
    go_wp2_with (first
      | (go_at_call 89; refine (okO _ _ _ _ HL2.out.1).mono ?_; rintro e w' ⟨rfl, rfl⟩))
    go_loop [5, 45] (fun n i => i = .int .i64 0 ∧ n = .int .u64 0) (fun _ _ => 0)
    case atStart => exact ⟨rfl, rfl⟩
    case round =>
      obtain ⟨rfl, rfl⟩ := hrel
      go_wp2
      go_ret
      exact ⟨rfl, HL2.out⟩

theorem numO_ (w0 w : World) (g : Nat) (st : Option (List Int)) (h : RdO w0 w g st) (hB : Below w0.heap.size w0 w) :
    Calls Try.prog 120 #[.pointer (some ⟨g, 0, none⟩)] w fun e w' => e = .returned (.int .u64 (numO st).1) ∧ Left w0 w w' g (numO st).2 := by
  match st, h with
  | none, h => exact num_none w0 w g none h hB rfl
  | some [], h => exact num_none w0 w g (some []) h hB rfl
  | some (x :: r), h =>
    have hx0 := h.u8.1.head.1
    simp only [numO]
    by_cases h1 : x > 8
    · rw [if_pos h1]; exact num_wide w0 w g x r h hB h1
    · rw [if_neg h1]
      by_cases h2 : (r.length : Int) < x
      · rw [if_pos h2]; exact num_short w0 w g x r h hB hx0 (by omega) h2
      · rw [if_neg h2]
        by_cases h3 : 0 < x ∧ r.getD 0 0 = 0
        · rw [if_pos h3]
          cases r with
          | nil => simp at h2; omega
          | cons y r => exact num_zero w0 w g x y r h hB h3.1 (by omega) (by simp at h2; omega) (by simpa using h3.2)
        · rw [if_neg h3]; exact num_good w0 w g x r h hB hx0 (by omega) (by omega) h3


set_option maxHeartbeats 1600000 in
set_option maxRecDepth 100000 in
theorem countO_ (w0 w : World) (g : Nat) (st : Option (List Int)) (most : Int) (h : RdO w0 w g st) (hB : Below w0.heap.size w0 w) (hm : most ≤ 9223372036854775807) :
    Calls Try.prog 88 #[.pointer (some ⟨g, 0, none⟩), .int .i64 most] w fun e w' => e = .returned (.int .i64 (countO st most).1) ∧ Left w0 w w' g (countO st most).2 := by
  have HS := Aside0.mk h
  have HB := Aside0.mk hB
  have hr := numO_range (st := st) (fun bs e => by subst e; exact h.u8.1)
  unfold countO
  obtain ⟨nv, hnv⟩ : ∃ nv, nv = (numO st).1 := ⟨_, rfl⟩
  rw [← hnv] at hr ⊢
  have HN := Aside0.mk hnv
  have HR := Aside0.mk hr
  have HM := Aside0.mk hm
  clear hm
  clear hr hnv h hB
  by_cases h1 : most < 0
  · rw [if_pos (Or.inl h1)]
    have hd : decide (most < 0) = true := decide_eq_true h1
    clear h1
    go_enter Try.func88, Try.ntmps88
    go_wp2_with (first
      | (go_at_call 120; refine (numO_ _ _ _ _ HS.out HB.out).mono ?_; rintro e w1 ⟨rfl, hl⟩; rw [← HN.out]; have HL := Aside0.mk hl; clear hl)
      | (go_at_call 121; refine (failO _ _ _ _ HL.out.1 HL.out.2.1).mono ?_; rintro e w2 ⟨rfl, hf⟩; have HF := Aside0.mk hf; clear hf))
    go_ret
    exact ⟨rfl, HL.out.trans HF.out⟩
  · have hd : decide (most < 0) = false := decide_eq_false h1
    have hw : IntKind.u64.wrap most = most := IntWalk.u64_in _ (by have := HM.out; omega)
    by_cases h2 : nv > most
    · rw [if_pos (Or.inr h2)]
      have hd2 : decide (most < nv) = true := decide_eq_true h2
      clear h1 h2
      go_enter Try.func88, Try.ntmps88
      go_wp2_with (first
        | (go_at_call 120; refine (numO_ _ _ _ _ HS.out HB.out).mono ?_; rintro e w1 ⟨rfl, hl⟩; rw [← HN.out]; have HL := Aside0.mk hl; clear hl)
        | (go_at_call 121; refine (failO _ _ _ _ HL.out.1 HL.out.2.1).mono ?_; rintro e w2 ⟨rfl, hf⟩; have HF := Aside0.mk hf; clear hf))
      go_ret
      exact ⟨rfl, HL.out.trans HF.out⟩
    · rw [if_neg (by omega)]
      have hd2 : decide (most < nv) = false := decide_eq_false h2
      have hv : wrap64 nv = nv := IntWalk.wrap64_in _ (by have := HM.out; have := HR.out; omega)
      clear h1 h2
      go_enter Try.func88, Try.ntmps88
      go_wp2_with (first
        | (go_at_call 120; refine (numO_ _ _ _ _ HS.out HB.out).mono ?_; rintro e w1 ⟨rfl, hl⟩; rw [← HN.out]; have HL := Aside0.mk hl; clear hl))
      go_ret
      exact ⟨by rw [← HN.out, hv]; rfl, HL.out⟩

set_option maxHeartbeats 800000 in
theorem textO_ (w0 w : World) (g : Nat) (st : Option (List Int)) (most : Int) (h : RdO w0 w g st) (hB : Below w0.heap.size w0 w) (hm : most ≤ 9223372036854775807) :
    Calls Try.prog 87 #[.pointer (some ⟨g, 0, none⟩), .int .i64 most] w fun e w' => ∃ v, e = .returned v ∧ Ob w' w.heap.size v (textO st most).1 ∧ Left w0 w w' g (textO st most).2 := by
  have HS := Aside0.mk h
  have HB := Aside0.mk hB
  have HM := Aside0.mk hm
  clear hm h hB
  go_enter Try.func87, Try.ntmps87
  go_wp2_with (first
    | (go_at_call 88; refine (countO_ _ _ _ _ _ HS.out HB.out HM.out).mono ?_; rintro e w1 ⟨rfl, hl⟩; have HL := Aside0.mk hl; clear hl)
    | (go_at_call 91; refine (takeO_ _ _ _ _ _ HL.out.1 HL.out.2.1).mono ?_; rintro e w2 ⟨v, rfl, ho, hl⟩; have HO := Aside0.mk ho; have HT := Aside0.mk hl; clear hl ho))
  go_ret
  exact ⟨_, rfl, Kd.R_lower HO.out HL.out.2.2.1, HL.out.trans HT.out⟩
end Go.Proofs.Ytgdpabedlghiaaa.Tlv
/- scope.read walked: the next scope of a reader (printed by gen_scread.py). -/
namespace Go.Proofs.Ytgdpabedlghiaaa.Scope
set_option linter.unusedVariables false
set_option linter.unusedSimpArgs false
open Go.RowKit Go.Proofs.Ytgdpabedlghiaaa.Base Go.Proofs.Ytgdpabedlghiaaa.TlvPlain Go.Proofs.Ytgdpabedlghiaaa.Lo Go.Proofs.Ytgdpabedlghiaaa.RdPlain Go.Proofs.Ytgdpabedlghiaaa.Aid Go.Proofs.Ytgdpabedlghiaaa.PZ Go.Proofs.YtgdpabedlghiaaaW.PrintWords Go.Proofs.YtgdpabedlghiaaaW.PrintLast Go.Proofs.YtgdpabedlghiaaaW.PrintMore
open Tlv (RdO takeO_ okO countO_ textO_)
theorem Blk.keep {w w' : World} {k g T : Nat} {cs : Array Value} (h : Blk w k T cs) (hk : KeepBut w w' g none) (hne : k ≠ g) : Blk w' k T cs := hk.blk h hne (by simp)
def NoU8 (v : Value) : Prop := ∀ n, v ≠ .int .u8 n
theorem no_u8_5 {a b c d e : Value} (ha : NoU8 a) (hb : NoU8 b) (hc : NoU8 c) (hd : NoU8 d) (he : NoU8 e) (i : Nat) (v : Value) (h : (#[a, b, c, d, e] : Array Value)[i]? = some v) (n : Int) : v ≠ .int .u8 n := by
  match i, h with
  | 0, h => cases h; exact ha n
  | 1, h => cases h; exact hb n
  | 2, h => cases h; exact hc n
  | 3, h => cases h; exact hd n
  | 4, h => cases h; exact he n
theorem set5 {w : World} {g T : Nat} {a b c d e : Value} (h : Blk w g T #[a, b, c, d, e]) (a' b' c' d' e' : Value) : Blk (((((w.setCell ⟨g, 0, none⟩ a').setCell ⟨g, 1, none⟩ b').setCell ⟨g, 2, none⟩ c').setCell ⟨g, 3, none⟩ d').setCell ⟨g, 4, none⟩ e') g T #[a', b', c', d', e'] := by
  have h5 := blk_set (blk_set (blk_set (blk_set (blk_set h 0 a') 1 b') 2 c') 3 d') 4 e'
  simpa [Blk] using h5
theorem left_set5 {w0 w W : World} {g q T : Nat} {s : Option (List Int)} {a b c d e : Value} (h : Tlv.Left w0 w W g s) (hq : Blk W q T #[a, b, c, d, e]) (ha : NoU8 a) (hb : NoU8 b) (hc : NoU8 c) (hd : NoU8 d) (he : NoU8 e) (hne : g ≠ q) (h0 : w0.heap.size ≤ q) (hw : w.heap.size ≤ q) (a' b' c' d' e' : Value) :
    Tlv.Left w0 w (((((W.setCell ⟨q, 0, none⟩ a').setCell ⟨q, 1, none⟩ b').setCell ⟨q, 2, none⟩ c').setCell ⟨q, 3, none⟩ d').setCell ⟨q, 4, none⟩ e') g s :=
  ⟨h.1.keep ((((((KeepBut.refl W q none).set_ 0 _).set_ 1 _).set_ 2 _).set_ 3 _).set_ 4 _) hne hq (no_u8_5 ha hb hc hd he), below_set (below_set (below_set (below_set (below_set h.2.1 h0) h0) h0) h0) h0, keep_far (keep_far (keep_far (keep_far (keep_far h.2.2 hw _) hw _) hw _) hw _) hw _⟩
theorem left_set1 {w0 w W : World} {g q T j : Nat} {s : Option (List Int)} {a b c d e : Value} (h : Tlv.Left w0 w W g s) (hq : Blk W q T #[a, b, c, d, e]) (ha : NoU8 a) (hb : NoU8 b) (hc : NoU8 c) (hd : NoU8 d) (he : NoU8 e) (hne : g ≠ q) (h0 : w0.heap.size ≤ q) (hw : w.heap.size ≤ q) (v : Value) :
    Tlv.Left w0 w (W.setCell ⟨q, j, none⟩ v) g s :=
  ⟨h.1.keep ((KeepBut.refl W q none).set_ j _) hne hq (no_u8_5 ha hb hc hd he), below_set h.2.1 h0, keep_far h.2.2 hw _⟩
theorem left_below {w0 w W W1 : World} {g : Nat} {s : Option (List Int)} (h : Tlv.Left w0 w W g s) (hb : Below W.heap.size W W1) : Tlv.Left w0 w W1 g s := ⟨h.1.below hb, below_step h.2.1 hb, h.2.2.trans (KeepBut.of_below hb g none) (.inl rfl)⟩
/-- What a reading of a scope leaves. -/
def ReadQ (w0 w : World) (g : Nat) (r : Option (S40 × List Int)) (e : Ending) (w' : World) : Prop :=
  match r with
  | some (x, s) => ∃ v, e = .returned (.tuple #[.agg #[.int .i64 x.f0, .string x.f1, .int .i64 x.f2, .int .i64 x.f3, v], .bool true]) ∧ Kd.R k40 40 w' w.heap.size (fun _ => True) v x.f4 ∧ Tlv.Left w0 w w' g (some s)
  | none => ∃ (y0 : Int) (y1 : ByteArray) (y2 y3 : Int) (A : Option Addr) (n c : Nat) (s : Option (List Int)), e = .returned (.tuple #[.agg #[.int .i64 y0, .string y1, .int .i64 y2, .int .i64 y3, .slice A n c], .bool false]) ∧ Tlv.Left w0 w w' g s
theorem take1 (c : Int) (r : List Int) : takeO (some (c :: r)) 1 = ([c], some r) := by
  simp only [takeO]
  rw [if_pos (by rw [List.length_cons]; omega)]
  rfl
theorem drawn_b {w w' : World} (h : Drawn0 w w') : Below w.heap.size w w' := by obtain ⟨n, rfl⟩ := h; exact pw_below_drewN (Below.refl _ _) n
/-- What the loop over a scope's kids keeps. -/
def Kids (w0 w W : World) (g gt : Nat) (c : Int) (nm : ByteArray) (fr tt : Int) (ks : List S40) (s : Option (List Int)) (b1 : Nat) : Prop :=
  ∃ v, (∃ A n c, v = .slice A n c) ∧ Blk W gt 40 #[.int .i64 c, .string nm, .int .i64 fr, .int .i64 tt, v] ∧ Kd.R k40 40 W b1 (fun k => k ≠ g ∧ k ≠ gt) v ks ∧ Tlv.Left w0 w W g s ∧ Blk W w.heap.size 40 #[.int .i64 0, .string ⟨#[]⟩, .int .i64 0, .int .i64 0, .slice none 0 0]
theorem left_grown {w0 w W W1 : World} {g : Nat} {s : Option (List Int)} {row : Option Nat} (h : Tlv.Left w0 w W g s) (hb : Below w.heap.size W W1) (hg : W.grownBy W1 row) (hr : ∀ b, row = some b → g < b ∧ w0.heap.size ≤ b) (h0 : w0.heap.size ≤ w.heap.size) : Tlv.Left w0 w W1 g s :=
  ⟨h.1.grown hg (fun b e => (hr b e).1), h.2.1.trans (hb.mono h0), Nat.le_trans h.2.2.1 hb.size, fun i hi h1 h2 => (hb.block i hi).trans (h.2.2.2 i hi h1 h2)⟩
/-- What is left to be read of the kids. -/
def Rest (d N : Nat) (s2 : Option (List Int)) (i : Nat) (ks : List S40) (s : Option (List Int)) : Prop :=
  (match readK (readS d) (N - i) s with
    | some (l, s') => some (ks ++ l, s')
    | none => none) = readK (readS d) N s2
theorem rest_none {d N i : Nat} {s2 s : Option (List Int)} {ks : List S40} (h : Rest d N s2 i ks s) (hi : i < N) (hr : readS d s = none) : readK (readS d) N s2 = none := by
  unfold Rest at h
  rw [← h, show N - i = (N - (i + 1)) + 1 by omega, readK, hr]
theorem rest_some {d N i : Nat} {s2 s : Option (List Int)} {ks : List S40} {x : S40} {r : List Int} (h : Rest d N s2 i ks s) (hi : i < N) (hr : readS d s = some (x, r)) : Rest d N s2 (i + 1) (ks ++ [x]) (some r) := by
  unfold Rest at h ⊢
  rw [← h, show N - i = (N - (i + 1)) + 1 by omega, readK, hr]
  dsimp only
  cases readK (readS d) (N - (i + 1)) (some r) with
  | none => rfl
  | some p => obtain ⟨l, s'⟩ := p; simp
theorem rest_end {d N i : Nat} {s2 s : Option (List Int)} {ks : List S40} (h : Rest d N s2 i ks s) (hi : N ≤ i) : readK (readS d) N s2 = some (ks, s) := by
  unfold Rest at h
  rw [← h, show N - i = 0 by omega, readK]
  simp
theorem info_s : (Try.prog.info? 40).map (fun i => (i.zero, i.size, i.bytes)) = some (some (.agg #[.int .i64 0, .string ⟨#[]⟩, .int .i64 0, .int .i64 0, .slice none 0 0]), 5, 64) := by kernel_rfl
theorem blk_step {W W1 : World} {g T b : Nat} {cs : Array Value} (h : Blk W g T cs) (hb : Below b W W1) (hg : g < b) : Blk W1 g T cs := (hb.block g hg).trans h
theorem kids_more {w0 w W w1 : World} {g gt : Nat} {c : Int} {nm : ByteArray} {fr tt : Int} {ks : List S40} {x : S40} {s : Option (List Int)} {v1 : Value} {A3 : Option Addr} {n3 c3 : Nat} {ok : Nat → Prop}
    (hT : Blk W gt 40 #[.int .i64 c, .string nm, .int .i64 fr, .int .i64 tt, .slice A3 n3 c3]) (hR : Kd.R k40 40 W (gt + 1) ok (.slice A3 n3 c3) ks) (hL : Tlv.Left w0 w W g s) (h0 : Blk W w.heap.size 40 #[.int .i64 0, .string ⟨#[]⟩, .int .i64 0, .int .i64 0, .slice none 0 0])
    (hR1 : Kd.R k40 40 w1 (gt + 1) (fun k => k ≠ g ∧ k ≠ gt) v1 (ks ++ [x])) (hb : Below (gt + 1) W w1) (hg : W.grownBy w1 (Value.slice A3 n3 c3).ownBlock) (hw : w0.heap.size ≤ w.heap.size ∧ g < w.heap.size) (hgt : w.heap.size < gt) :
    Blk w1 gt 40 #[.int .i64 c, .string nm, .int .i64 fr, .int .i64 tt, .slice A3 n3 c3] ∧ Kids w0 w (w1.setCell ⟨gt, 4, none⟩ v1) g gt c nm fr tt (ks ++ [x]) s (gt + 1) := by
  have hT1 := blk_step hT hb (by omega)
  have hL1 : Tlv.Left w0 w w1 g s := left_grown hL (hb.mono (by omega)) hg (fun b e => by have := Kd.R_base hR b e; exact ⟨by omega, by omega⟩) hw.1
  refine ⟨hT1, v1, ?_, ?_, ?_, ?_, ?_⟩
  · obtain ⟨A, c, e⟩ := Kd.R_slice hR1
    exact ⟨_, _, _, e⟩
  · have h := blk_set hT1 4 v1
    simpa [Blk] using h
  · exact Kd.R_far hR1 (fun _ hk => hk.2) _
  · exact left_set1 hL1 hT1 (by simp [NoU8]) (by simp [NoU8]) (by simp [NoU8]) (by simp [NoU8]) (by simp [NoU8]) (by omega) (by omega) (by omega) _
  · exact blk_far (blk_step h0 hb (by omega)) (by dsimp only; omega) _
theorem kids_out {w0 w W : World} {g gt : Nat} {ks : List S40} {s : Option (List Int)} {v : Value} {ok : Nat → Prop}
    (hR : Kd.R k40 40 W (gt + 1) ok v ks) (hL : Tlv.Left w0 w W g s) (h0 : Blk W w.heap.size 40 #[.int .i64 0, .string ⟨#[]⟩, .int .i64 0, .int .i64 0, .slice none 0 0]) (hw : w0.heap.size ≤ w.heap.size ∧ g < w.heap.size) (hgt : w.heap.size < gt) (a b c d e : Value) :
    Kd.R k40 40 (((((W.setCell ⟨w.heap.size, 0, none⟩ a).setCell ⟨w.heap.size, 1, none⟩ b).setCell ⟨w.heap.size, 2, none⟩ c).setCell ⟨w.heap.size, 3, none⟩ d).setCell ⟨w.heap.size, 4, none⟩ e) w.heap.size (fun _ => True) v ks
    ∧ Tlv.Left w0 w (((((W.setCell ⟨w.heap.size, 0, none⟩ a).setCell ⟨w.heap.size, 1, none⟩ b).setCell ⟨w.heap.size, 2, none⟩ c).setCell ⟨w.heap.size, 3, none⟩ d).setCell ⟨w.heap.size, 4, none⟩ e) g s := by
  have hk := (((((KeepBut.refl W w.heap.size none).set_ 0 a).set_ 1 b).set_ 2 c).set_ 3 d).set_ 4 e
  refine ⟨Kd.R_mono (Kd.R_lower (Kd.R_keep (Kd.R_bound hR) hk (fun k hk => ?_)) (by omega)) (fun _ _ => trivial), left_set5 hL h0 (by simp [NoU8]) (by simp [NoU8]) (by simp [NoU8]) (by simp [NoU8]) (by simp [NoU8]) (by omega) (by omega) (Nat.le_refl _) _ _ _ _ _⟩
  have := hk.2.1; omega

set_option maxHeartbeats 8000000 in
set_option maxRecDepth 100000 in
theorem read_fail (d : Nat) (hd : d ≤ 8) (w0 w : World) (g : Nat) (st : Option (List Int)) (h : RdO w0 w g st) (hB : Below w0.heap.size w0 w) (hst : takeO st 1 = ([], none)) :
    Calls Try.prog 99 #[.pointer (some ⟨g, 0, none⟩), .int .i64 (d : Int)] w (ReadQ w0 w g (readS d st)) := by
  have HE := Aside0.mk (show readS d st = none by
    cases d with
    | zero => rfl
    | succ d => rw [readS, hst])
  have HB := Aside0.mk (below_step hB (below_alloc (Below.refl w.heap.size w) (.cells #[.int .i64 0, .string ⟨#[]⟩, .int .i64 0, .int .i64 0, .slice none 0 0] 40)))
  have HS := Aside0.mk (h.below (below_alloc (Below.refl w.heap.size w) (.cells #[.int .i64 0, .string ⟨#[]⟩, .int .i64 0, .int .i64 0, .slice none 0 0] 40)))
  have H0 := Aside0.mk (show Blk (w.alloc (.cells #[.int .i64 0, .string ⟨#[]⟩, .int .i64 0, .int .i64 0, .slice none 0 0] 40)) w.heap.size 40 #[.int .i64 0, .string ⟨#[]⟩, .int .i64 0, .int .i64 0, .slice none 0 0] from blk_new _ _)
  have HG := Aside0.mk (show w0.heap.size ≤ w.heap.size ∧ g < w.heap.size from ⟨hB.size, h.blk.2.1⟩)
  have HKW := Aside0.mk (KeepBut.of_below (below_alloc (Below.refl w.heap.size w) (.cells #[.int .i64 0, .string ⟨#[]⟩, .int .i64 0, .int .i64 0, .slice none 0 0] 40)) g none)
  have hu40 := Try.underlying40
  have H1 := Aside0.mk hst
  clear h hB hst hd
  go_enter Try.func99, Try.ntmps99
  go_wp2_with (fail)
  refine (takeO_ w0 _ g st 1 HS.out HB.out).mono ?_
  rintro e w1 ⟨v, rfl, ho, hl⟩
  rw [H1.out] at ho hl
  obtain ⟨A5, c5, rfl, _, _⟩ := Ob.reads ho
  have HL := Aside0.mk hl
  have H01 := Aside0.mk (H0.out.keep hl.2.2 (by have := HG.out; omega))
  have y0 := blk_frozen H01.out 0
  have y1 := blk_frozen H01.out 1
  have y2 := blk_frozen H01.out 2
  have y3 := blk_frozen H01.out 3
  have y4 := blk_frozen H01.out 4
  have z0 := H01.out.cell 0
  have z1 := H01.out.cell 1
  have z2 := H01.out.cell 2
  have z3 := H01.out.cell 3
  have z4 := H01.out.cell 4
  simp only [List.getElem?_toArray, List.getElem?_cons_zero, List.getElem?_cons_succ] at z0 z1 z2 z3 z4
  clear ho hl
  go_wp2_with (fail)
  refine (okO w0 _ g none HL.out.1).mono ?_
  rintro e w2 ⟨rfl, rfl⟩
  go_wp2_with (fail)
  refine bodyPost_ret (results_ct rfl _ _ w.heap.size 40 #[.int .i64 0, .string ⟨#[]⟩, .int .i64 0, .int .i64 0, .slice none 0 0] (0, 0) _ rfl (set5 H01.out _ _ _ _ _) Try.underlying40 rfl (by kernel_rfl)) rfl ?_
  rw [HE.out]
  exact ⟨0, ⟨#[]⟩, 0, 0, none, 0, 0, _, rfl, left_set5 ⟨HL.out.1, HL.out.2.1, HKW.out.trans HL.out.2.2 (.inl rfl)⟩ H01.out (by simp [NoU8]) (by simp [NoU8]) (by simp [NoU8]) (by simp [NoU8]) (by simp [NoU8]) (by have := HG.out; omega) HG.out.1 (Nat.le_refl _) _ _ _ _ _⟩

set_option maxHeartbeats 8000000 in
set_option maxRecDepth 100000 in
theorem read_zero (w0 w : World) (g : Nat) (c : Int) (r : List Int) (h : RdO w0 w g (some (c :: r))) (hB : Below w0.heap.size w0 w) :
    Calls Try.prog 99 #[.pointer (some ⟨g, 0, none⟩), .int .i64 0] w (ReadQ w0 w g (readS 0 (some (c :: r)))) := by
  have HB := Aside0.mk (below_step hB (below_alloc (Below.refl w.heap.size w) (.cells #[.int .i64 0, .string ⟨#[]⟩, .int .i64 0, .int .i64 0, .slice none 0 0] 40)))
  have HS := Aside0.mk (h.below (below_alloc (Below.refl w.heap.size w) (.cells #[.int .i64 0, .string ⟨#[]⟩, .int .i64 0, .int .i64 0, .slice none 0 0] 40)))
  have H0 := Aside0.mk (show Blk (w.alloc (.cells #[.int .i64 0, .string ⟨#[]⟩, .int .i64 0, .int .i64 0, .slice none 0 0] 40)) w.heap.size 40 #[.int .i64 0, .string ⟨#[]⟩, .int .i64 0, .int .i64 0, .slice none 0 0] from blk_new _ _)
  have HG := Aside0.mk (show w0.heap.size ≤ w.heap.size ∧ g < w.heap.size from ⟨hB.size, h.blk.2.1⟩)
  have HKW := Aside0.mk (KeepBut.of_below (below_alloc (Below.refl w.heap.size w) (.cells #[.int .i64 0, .string ⟨#[]⟩, .int .i64 0, .int .i64 0, .slice none 0 0] 40)) g none)
  have hu40 := Try.underlying40
  clear h hB
  go_enter Try.func99, Try.ntmps99
  go_wp2_with (fail)
  refine (takeO_ w0 _ g (some (c :: r)) 1 HS.out HB.out).mono ?_
  rintro e w1 ⟨v, rfl, ho, hl⟩
  rw [take1] at ho hl
  obtain ⟨A5, c5, rfl, hl5, hr5⟩ := Ob.reads ho
  obtain ⟨ad5, rfl, hc5⟩ := Rb.at0 hr5
  have HL := Aside0.mk (show Tlv.Left w0 w w1 g (some r) from ⟨hl.1, hl.2.1, HKW.out.trans hl.2.2 (.inl rfl)⟩)
  have H01 := Aside0.mk (H0.out.keep hl.2.2 (by have := HG.out; omega))
  clear ho hl hl5 hr5
  have y0 := blk_frozen H01.out 0
  have y1 := blk_frozen H01.out 1
  have y2 := blk_frozen H01.out 2
  have y3 := blk_frozen H01.out 3
  have y4 := blk_frozen H01.out 4
  have z0 := H01.out.cell 0
  have z1 := H01.out.cell 1
  have z2 := H01.out.cell 2
  have z3 := H01.out.cell 3
  have z4 := H01.out.cell 4
  simp only [List.getElem?_toArray, List.getElem?_cons_zero, List.getElem?_cons_succ] at z0 z1 z2 z3 z4
  go_wp2_with (fail)
  refine (okO w0 _ g (some r) HL.out.1).mono ?_
  rintro e w2 ⟨rfl, rfl⟩
  go_wp2_with (fail)
  refine bodyPost_ret (results_ct rfl _ _ w.heap.size 40 #[.int .i64 0, .string ⟨#[]⟩, .int .i64 0, .int .i64 0, .slice none 0 0] (0, 0) _ rfl (set5 H01.out _ _ _ _ _) Try.underlying40 rfl (by kernel_rfl)) rfl ?_
  rw [readS]
  exact ⟨0, ⟨#[]⟩, 0, 0, none, 0, 0, _, rfl, left_set5 HL.out H01.out (by simp [NoU8]) (by simp [NoU8]) (by simp [NoU8]) (by simp [NoU8]) (by simp [NoU8]) (by have := HG.out; omega) HG.out.1 (Nat.le_refl _) _ _ _ _ _⟩

theorem cnt_rng (st : Option (List Int)) {m : Int} (hm : 0 ≤ m) (hu : ∀ bs, st = some bs → U8 bs) : 0 ≤ (countO st m).1 ∧ (countO st m).1 ≤ m := by
  unfold countO
  split
  · exact ⟨Int.le_refl _, hm⟩
  · next h => exact ⟨(numO_range hu).1, by omega⟩
theorem size_alloc_ (w : World) (o : Obj) : (w.alloc o).heap.size = w.heap.size + 1 := by simp

set_option maxHeartbeats 8000000 in
set_option maxRecDepth 100000 in
theorem read_N (d : Nat) (hd : d + 1 ≤ 8) (ih : ∀ w0 w g st, RdO w0 w g st → Below w0.heap.size w0 w → Calls Try.prog 99 #[.pointer (some ⟨g, 0, none⟩), .int .i64 (d : Int)] w (ReadQ w0 w g (readS d st))) (w0 w : World) (g : Nat) (c : Int) (r : List Int) (h : RdO w0 w g (some (c :: r))) (hB : Below w0.heap.size w0 w) (hn : namedB c = true) :
    Calls Try.prog 99 #[.pointer (some ⟨g, 0, none⟩), .int .i64 ((d + 1 : Nat) : Int)] w (ReadQ w0 w g (readS (d + 1) (some (c :: r)))) := by
  have HE := Aside0.mk (show readS (d + 1) (some (c :: r)) = match readK (readS d) (Int.toNat (leastB c)) (textO (some r) 16).2 with
      | some (ks, some s) => some (⟨c, (strOfNums (textO (some r) 16).1), 0, 0, ks⟩, s)
      | _ => none by
    rw [readS, take1]
    simp only [List.getD_cons_zero]
    unfold headR
    rw [if_pos hn]
    all_goals rfl)
  have HIH := Aside0.mk ih
  have HD8 := Aside0.mk hd
  have HU := Aside0.mk h.u8
  have hc0 := (show 0 ≤ c ∧ c ≤ 255 from h.u8.1.head).1
  have hc1 := (show 0 ≤ c ∧ c ≤ 255 from h.u8.1.head).2
  have z9 : (((d + 1 : Nat) : Int) == 0) = false := by rw [beq_eq_false_iff_ne]; omega
  have HW1 := Aside0.mk (show wrap64 (((d + 1 : Nat) : Int) - 1) = (d : Int) from by rw [Aid.w64 (by omega) (by omega)]; omega)
  have HNM := Aside0.mk hn
  have HB := Aside0.mk (below_step hB (below_alloc (Below.refl w.heap.size w) (.cells #[.int .i64 0, .string ⟨#[]⟩, .int .i64 0, .int .i64 0, .slice none 0 0] 40)))
  have HS := Aside0.mk (h.below (below_alloc (Below.refl w.heap.size w) (.cells #[.int .i64 0, .string ⟨#[]⟩, .int .i64 0, .int .i64 0, .slice none 0 0] 40)))
  have H0 := Aside0.mk (show Blk (w.alloc (.cells #[.int .i64 0, .string ⟨#[]⟩, .int .i64 0, .int .i64 0, .slice none 0 0] 40)) w.heap.size 40 #[.int .i64 0, .string ⟨#[]⟩, .int .i64 0, .int .i64 0, .slice none 0 0] from blk_new _ _)
  have HG := Aside0.mk (show w0.heap.size ≤ w.heap.size ∧ g < w.heap.size from ⟨hB.size, h.blk.2.1⟩)
  have HKW := Aside0.mk (KeepBut.of_below (below_alloc (Below.refl w.heap.size w) (.cells #[.int .i64 0, .string ⟨#[]⟩, .int .i64 0, .int .i64 0, .slice none 0 0] 40)) g none)
  have hu40 := Try.underlying40
  obtain ⟨D, hD⟩ : ∃ D : Int, ((d + 1 : Nat) : Int) = D := ⟨_, rfl⟩
  rw [hD] at z9 HW1 ⊢
  clear h hB hd hD ih hn
  go_enter Try.func99, Try.ntmps99
  go_wp2_with (fail)
  refine (takeO_ w0 _ g (some (c :: r)) 1 HS.out HB.out).mono ?_
  rintro e w1 ⟨v, rfl, ho, hl⟩
  rw [take1] at ho hl
  obtain ⟨A5, c5, rfl, hl5, hr5⟩ := Ob.reads ho
  obtain ⟨ad5, rfl, hc5⟩ := Rb.at0 hr5
  have HL := Aside0.mk (show Tlv.Left w0 w w1 g (some r) from ⟨hl.1, hl.2.1, HKW.out.trans hl.2.2 (.inl rfl)⟩)
  have H01 := Aside0.mk (H0.out.keep hl.2.2 (by have := HG.out; omega))
  clear ho hl hl5 hr5
  go_wp2_with (fail)
  refine (okO w0 _ g (some r) HL.out.1).mono ?_
  rintro e w2 ⟨rfl, rfl⟩
  go_wp2_with (fail)
  refine (scope_kids.calls c (leastB c) (mostB c) _ (kids_v c)).mono ?_
  rintro e w3 ⟨rfl, hd⟩
  have hb := drawn_b hd
  have HL_3 := Aside0.mk (left_below (left_below HL.out (below_alloc (Below.refl _ _) _)) hb)
  have H0_3 := Aside0.mk ((H01.out.alloc (.cells #[.int .i64 c, .string ⟨#[]⟩, .int .i64 0, .int .i64 0, .slice none 0 0] 40)).below hb)
  have HT_3 := Aside0.mk ((show Blk (w1.alloc (.cells #[.int .i64 c, .string ⟨#[]⟩, .int .i64 0, .int .i64 0, .slice none 0 0] 40)) w1.heap.size 40 #[.int .i64 c, .string ⟨#[]⟩, .int .i64 0, .int .i64 0, .slice none 0 0] from blk_new _ _).below hb)
  clear hb hd
  have x0 := HT_3.out.cell 0
  have x1 := HT_3.out.cell 1
  have x2 := HT_3.out.cell 2
  have x3 := HT_3.out.cell 3
  have x4 := HT_3.out.cell 4
  simp only [List.getElem?_toArray, List.getElem?_cons_zero, List.getElem?_cons_succ] at x0 x1 x2 x3 x4
  go_wp2_with (fail)
  refine (scope_named.calls c (namedB c) _ (named_v c)).mono ?_
  rintro e w4 ⟨rfl, hd⟩
  rw [HNM.out]
  have hb := drawn_b hd
  have HL_4 := Aside0.mk (left_below HL_3.out hb)
  have H0_4 := Aside0.mk (H0_3.out.below hb)
  have HT_4 := Aside0.mk (HT_3.out.below hb)
  clear hb hd x0 x1 x2 x3 x4
  have x0 := HT_4.out.cell 0
  have x1 := HT_4.out.cell 1
  have x2 := HT_4.out.cell 2
  have x3 := HT_4.out.cell 3
  have x4 := HT_4.out.cell 4
  simp only [List.getElem?_toArray, List.getElem?_cons_zero, List.getElem?_cons_succ] at x0 x1 x2 x3 x4
  go_wp2_with (fail)
  refine (textO_ w0 _ g (some r) 16 HL_4.out.1 HL_4.out.2.1 (by decide)).mono ?_
  rintro e w5 ⟨v, rfl, ho, hl⟩
  obtain ⟨A6, c6, rfl, hl6, hr6⟩ := Ob.reads ho
  have hcv := Kd.C_string (P := Try.prog) (c := c6) Try.underlying27 Try.underlying5 Try.underlying9 hr6
  have HL_5 := Aside0.mk (HL_4.out.trans hl)
  have H0_5 := Aside0.mk (H0_4.out.keep hl.2.2 (by have := HG.out; omega))
  have HT_5 := Aside0.mk (HT_4.out.keep hl.2.2 (by have := HG.out; have := HL.out.2.2.1; omega))
  clear ho hl hl6 hr6 x0 x1 x2 x3 x4
  have x0 := HT_5.out.cell 0
  have x1 := HT_5.out.cell 1
  have x2 := HT_5.out.cell 2
  have x3 := HT_5.out.cell 3
  have x4 := HT_5.out.cell 4
  simp only [List.getElem?_toArray, List.getElem?_cons_zero, List.getElem?_cons_succ] at x0 x1 x2 x3 x4
  have f0 := blk_frozen HT_5.out 0
  have f1 := blk_frozen HT_5.out 1
  have f2 := blk_frozen HT_5.out 2
  have f3 := blk_frozen HT_5.out 3
  have f4 := blk_frozen HT_5.out 4
  go_upto_region 13 with (fail)
  obtain ⟨W, hW⟩ : ∃ W, w5.setCell ⟨w1.heap.size, 1, none⟩ (.string (strOfNums (textO (some r) 16).1)) = W := ⟨_, rfl⟩
  have HKD := Aside0.mk (show Kids w0 w W g w1.heap.size c (strOfNums (textO (some r) 16).1) 0 0 [] (textO (some r) 16).2 (w1.heap.size + 1) by rw [← hW]; exact ⟨.slice none 0 0, ⟨_, _, _, rfl⟩, by have h := blk_set HT_5.out 1 (.string (strOfNums (textO (some r) 16).1)); simpa [Blk] using h, Kd.R_nil _ _ _ _ _, left_set1 HL_5.out HT_5.out (by simp [NoU8]) (by simp [NoU8]) (by simp [NoU8]) (by simp [NoU8]) (by simp [NoU8]) (by have := HG.out; have := HL.out.2.2.1; omega) (by have := HG.out; have := HL.out.2.2.1; omega) HL.out.2.2.1 _, blk_far H0_5.out (by have := HG.out; have := HL.out.2.2.1; have := H01.out.lt; dsimp only; omega) _⟩)
  rw [hW]
  have HGT := Aside0.mk (show w.heap.size < w1.heap.size by have := HL.out.2.2.1; have := H01.out.lt; omega)
  obtain ⟨gt, hgt⟩ : ∃ k, w1.heap.size = k := ⟨_, rfl⟩
  rw [hgt] at HKD HGT ⊢
  have hnr : 0 ≤ (leastB c) ∧ (leastB c) ≤ 24 := by unfold leastB; repeat' split <;> omega
  obtain ⟨N, hN⟩ : ∃ N : Nat, (leastB c) = (N : Int) := ⟨Int.toNat (leastB c), by omega⟩
  have HNL := Aside0.mk (show N ≤ 24 by omega)
  rw [hN, Int.toNat_natCast] at HE
  rw [hN]
  obtain ⟨nv, hnv⟩ : ∃ k, (strOfNums (textO (some r) 16).1) = k := ⟨_, rfl⟩
  obtain ⟨s2, hs2⟩ : ∃ k, (textO (some r) 16).2 = k := ⟨_, rfl⟩
  simp only [hnv, hs2] at HKD HE ⊢
  have hw9 := HW1.out
  clear hW hgt hN hnr hnv hs2
  go_wp2
  go_loopg [63] N (fun gf s63 wx => ∃ (i : Nat) (ks : List S40) (s : Option (List Int)) (wy : World), wy = wx ∧ s63 = .int .i64 (i : Int) ∧ i + gf = N ∧ ks.length = i ∧ Kids w0 w wy g gt c nv 0 0 ks s (gt + 1) ∧ Rest d N s2 i ks s)
  case atStart => exact ⟨0, [], s2, _, rfl, rfl, by omega, rfl, HKD.out, by simp [Rest]; cases readK (readS d) N s2 <;> simp⟩
  case round =>
    obtain ⟨i, ks, s, wx, rfl, rfl, hi, hkl, ⟨v3, ⟨A3, n3, c3, rfl⟩, hT, hR, hL, h0⟩, hRe⟩ := hrel
    have HQ := Aside0.mk hi; have HLK := Aside0.mk hkl; have HT := Aside0.mk hT; have HR := Aside0.mk hR; have HLL := Aside0.mk hL; have H0 := Aside0.mk h0; have HRE := Aside0.mk hRe
    clear hi hkl hT hR hL h0 hRe HKD
    by_cases hlt : i < N
    · have hl1 : decide ((i : Int) < (N : Int)) = true := decide_eq_true (by omega)
      have hw1 : wrap64 ((i : Int) + 1) = ((i + 1 : Nat) : Int) := by have := HNL.out; rw [Aid.w64 (by omega) (by omega)]; omega
      have hc := HIH.out w0 wx g s HLL.out.1 HLL.out.2.1
      cases hr : readS d s with
      | none =>
        rw [hr] at hc
        have HC := Aside0.mk hc
        have HEE := Aside0.mk (HE.out.trans (by rw [rest_none HRE.out hlt hr]))
        clear hc hr
        go_wp2_with (fail)
        refine HC.out.mono ?_
        rintro e w' ⟨y0, y1, y2, y3, B3, m3, e3, s', rfl, hl'⟩
        have HL' := Aside0.mk (HLL.out.trans hl')
        have H0' := Aside0.mk (H0.out.keep hl'.2.2 (by have := HG.out; omega))
        have y0_ := fun o => blk_frozen (H0'.out.alloc o) 0
        have y1_ := fun o => blk_frozen (H0'.out.alloc o) 1
        have y2_ := fun o => blk_frozen (H0'.out.alloc o) 2
        have y3_ := fun o => blk_frozen (H0'.out.alloc o) 3
        have y4_ := fun o => blk_frozen (H0'.out.alloc o) 4
        have z0_ := fun o => (H0'.out.alloc o).cell 0
        have z1_ := fun o => (H0'.out.alloc o).cell 1
        have z2_ := fun o => (H0'.out.alloc o).cell 2
        have z3_ := fun o => (H0'.out.alloc o).cell 3
        have z4_ := fun o => (H0'.out.alloc o).cell 4
        simp only [List.getElem?_toArray, List.getElem?_cons_zero, List.getElem?_cons_succ] at z0_ z1_ z2_ z3_ z4_
        clear hl'
        go_wp2_with (fail)
        refine bodyPost_ret (results_ct rfl _ _ w.heap.size 40 #[.int .i64 0, .string ⟨#[]⟩, .int .i64 0, .int .i64 0, .slice none 0 0] (0, 0) _ rfl (set5 (H0'.out.alloc _) _ _ _ _ _) Try.underlying40 rfl (by kernel_rfl)) rfl ?_
        rw [HEE.out]
        exact ⟨0, ⟨#[]⟩, 0, 0, none, 0, 0, _, rfl, left_set5 (left_below HL'.out (below_alloc (Below.refl _ _) _)) (H0'.out.alloc _) (by simp [NoU8]) (by simp [NoU8]) (by simp [NoU8]) (by simp [NoU8]) (by simp [NoU8]) (by have := HG.out; omega) HG.out.1 (Nat.le_refl _) _ _ _ _ _⟩
      | some p =>
        obtain ⟨x, r'⟩ := p
        rw [hr] at hc
        have HC := Aside0.mk hc
        have HRS := Aside0.mk (rest_some HRE.out hlt hr)
        clear hc hr
        go_wp2_with (fail)
        refine HC.out.mono ?_
        rintro e w' ⟨q3_, rfl, ho3, hl'⟩
        obtain ⟨B3, e3, rfl⟩ := Kd.R_slice ho3
        have HL' := Aside0.mk (left_below (HLL.out.trans hl') (below_alloc (Below.refl _ _) (.cells #[.int .i64 x.f0, .string x.f1, .int .i64 x.f2, .int .i64 x.f3, .slice B3 x.f4.length e3] 40)))
        have H0' := Aside0.mk ((H0.out.keep hl'.2.2 (by have := HG.out; omega)).alloc (.cells #[.int .i64 x.f0, .string x.f1, .int .i64 x.f2, .int .i64 x.f3, .slice B3 x.f4.length e3] 40))
        have HT' := Aside0.mk ((HT.out.keep hl'.2.2 (by have := HG.out; have := HGT.out; omega)).alloc (.cells #[.int .i64 x.f0, .string x.f1, .int .i64 x.f2, .int .i64 x.f3, .slice B3 x.f4.length e3] 40))
        have HR' := Aside0.mk (Kd.R_alloc (Kd.R_keep HR.out hl'.2.2 (fun _ h => h.1)) (.cells #[.int .i64 x.f0, .string x.f1, .int .i64 x.f2, .int .i64 x.f3, .slice B3 x.f4.length e3] 40))
        have HM := Aside0.mk (k40_mkM _ (gt + 1) (fun k => wx.heap.size ≤ k) x (Kd.R_mono (Kd.R_lower (Kd.R_bound (Kd.R_alloc ho3 (.cells #[.int .i64 x.f0, .string x.f1, .int .i64 x.f2, .int .i64 x.f3, .slice B3 x.f4.length e3] 40))) (by have := HT.out.lt; omega)) (fun _ h => h.2.1)))
        have HOK := Aside0.mk (show ∀ k, wx.heap.size ≤ k → (k ≠ g ∧ k ≠ gt) ∧ some k ≠ (Value.slice A3 n3 c3).ownBlock from fun k hk => ⟨⟨by have := HG.out; have := HT.out.lt; have := HGT.out; omega, by have := HT.out.lt; omega⟩, fun e => by have := Kd.R_lt HR.out k e.symm; omega⟩)
        have HSZ := Aside0.mk (show gt + 1 ≤ (w'.alloc (.cells #[.int .i64 x.f0, .string x.f1, .int .i64 x.f2, .int .i64 x.f3, .slice B3 x.f4.length e3] 40)).heap.size from HT'.out.lt)
        have HFR := Aside0.mk (show ∀ k, (w'.alloc (.cells #[.int .i64 x.f0, .string x.f1, .int .i64 x.f2, .int .i64 x.f3, .slice B3 x.f4.length e3] 40)).heap.size ≤ k → k ≠ g ∧ k ≠ gt from fun k hk => ⟨by have := HG.out; have := HGT.out; have := HSZ.out; omega, by have := HSZ.out; omega⟩)
        have HLN := Aside0.mk (show (ks.length + 1) * 64 ≤ 140737488355328 by have := HLK.out; have := HQ.out; have := HNL.out; omega)
        have y_0 := HT'.out.cell 0
        have y_1 := HT'.out.cell 1
        have y_2 := HT'.out.cell 2
        have y_3 := HT'.out.cell 3
        have y_4 := HT'.out.cell 4
        simp only [List.getElem?_toArray, List.getElem?_cons_zero, List.getElem?_cons_succ] at y_0 y_1 y_2 y_3 y_4
        clear ho3 hl'
        go_wp2_with (first | ((with_reducible refine gate_builtin (b := .append) (xs := #[.tmp 76, .tmp 78]) rfl ?_); at_builtin; go_must (refine Kd.R_append k40 (gt + 1) rfl (.tmp 76) (.tmp 78) 38 40 (.agg #[.int .i64 0, .string ⟨#[]⟩, .int .i64 0, .int .i64 0, .slice none 0 0]) 64 rfl Try.underlying38 info_s rfl (by decide) (by decide) _ ks x _ (fun k => k ≠ g ∧ k ≠ gt) (fun k => wx.heap.size ≤ k) rfl (by rw [size_alloc_]; rfl) HM.out HOK.out HFR.out HR'.out (Below.refl _ _) HSZ.out HLN.out ?_); intro v1 w1' hr1 hb1 hg1 _; obtain ⟨A9, c9, rfl⟩ := Kd.R_slice hr1; have HMORE := Aside0.mk (kids_more HT'.out HR'.out HL'.out H0'.out hr1 hb1 hg1 HG.out HGT.out); have y3 := blk_frozen HMORE.out.1 4; have y4 := HMORE.out.1.cell 4; simp only [List.getElem?_toArray, List.getElem?_cons_zero, List.getElem?_cons_succ] at y4; clear hr1 hb1 hg1))
        go_roundg (N - (i + 1))
        case measure => have := HQ.out; omega
        case rel => exact ⟨i + 1, ks ++ [x], some r', _, rfl, by first | rfl | rw [hw1], by omega, by simp [HLK.out], by have hm := HMORE.out.2; rw [List.length_append] at hm; exact hm, HRS.out⟩
    · have hl1 : decide ((i : Int) < (N : Int)) = false := decide_eq_false (by omega)
      have HEE := Aside0.mk (HE.out.trans (by rw [rest_end HRE.out (by omega)]))
      have HKO := Aside0.mk (kids_out HR.out HLL.out H0.out HG.out HGT.out)
      have HTD := Aside0.mk (HT.out.below (below_drew1 (Below.refl _ _)))
      have H0D := Aside0.mk (H0.out.below (below_drew1 (Below.refl _ _)))
      have x0 := HTD.out.cell 0
      have x1 := HTD.out.cell 1
      have x2 := HTD.out.cell 2
      have x3 := HTD.out.cell 3
      have x4 := HTD.out.cell 4
      simp only [List.getElem?_toArray, List.getElem?_cons_zero, List.getElem?_cons_succ] at x0 x1 x2 x3 x4
      have y0 := blk_frozen H0D.out 0
      have y1 := blk_frozen H0D.out 1
      have y2 := blk_frozen H0D.out 2
      have y3 := blk_frozen H0D.out 3
      have y4 := blk_frozen H0D.out 4
      have z0 := H0D.out.cell 0
      have z1 := H0D.out.cell 1
      have z2 := H0D.out.cell 2
      have z3 := H0D.out.cell 3
      have z4 := H0D.out.cell 4
      simp only [List.getElem?_toArray, List.getElem?_cons_zero, List.getElem?_cons_succ] at z0 z1 z2 z3 z4
      have X0 := HT.out.cell 0
      have X1 := HT.out.cell 1
      have X2 := HT.out.cell 2
      have X3 := HT.out.cell 3
      have X4 := HT.out.cell 4
      simp only [List.getElem?_toArray, List.getElem?_cons_zero, List.getElem?_cons_succ] at X0 X1 X2 X3 X4
      have Y0 := blk_frozen H0.out 0
      have Y1 := blk_frozen H0.out 1
      have Y2 := blk_frozen H0.out 2
      have Y3 := blk_frozen H0.out 3
      have Y4 := blk_frozen H0.out 4
      have Z0 := H0.out.cell 0
      have Z1 := H0.out.cell 1
      have Z2 := H0.out.cell 2
      have Z3 := H0.out.cell 3
      have Z4 := H0.out.cell 4
      simp only [List.getElem?_toArray, List.getElem?_cons_zero, List.getElem?_cons_succ] at Z0 Z1 Z2 Z3 Z4
      go_wp2
      cases s with
      | none =>
        go_region_law (go_simp; go_at_call 89; refine (okO w0 _ g none (RdO.below HLL.out.1 (below_drew1 (Below.refl _ _)))).mono ?_; rintro e w2 ⟨rfl, rfl⟩)
        all_goals
          go_wp2_with (fail)
          refine bodyPost_ret (results_ct rfl _ _ w.heap.size 40 #[.int .i64 c, .string nv, .int .i64 0, .int .i64 0, .slice A3 n3 c3] (0, 0) _ rfl ((set5 H0.out _ _ _ _ _).below (below_drew1 (Below.refl _ _))) Try.underlying40 rfl (by kernel_rfl)) rfl ?_
          rw [HEE.out]
          exact ⟨c, nv, 0, 0, A3, n3, c3, none, rfl, left_below (HKO.out _ _ _ _ _).2 (below_drew1 (Below.refl _ _))⟩
      | some r' =>
        go_region_law (go_simp; go_at_call 89; refine (okO w0 _ g (some r') (RdO.below HLL.out.1 (below_drew1 (Below.refl _ _)))).mono ?_; rintro e w2 ⟨rfl, rfl⟩)
        all_goals
          go_wp2_with (fail)
          refine bodyPost_ret (results_ct rfl _ _ w.heap.size 40 #[.int .i64 c, .string nv, .int .i64 0, .int .i64 0, .slice A3 n3 c3] (0, 0) _ rfl ((set5 H0.out _ _ _ _ _).below (below_drew1 (Below.refl _ _))) Try.underlying40 rfl (by kernel_rfl)) rfl ?_
          rw [HEE.out]
          exact ⟨.slice A3 n3 c3, rfl, Kd.R_drew (HKO.out _ _ _ _ _).1, left_below (HKO.out _ _ _ _ _).2 (below_drew1 (Below.refl _ _))⟩

set_option maxHeartbeats 8000000 in
set_option maxRecDepth 100000 in
theorem read_T (d : Nat) (hd : d + 1 ≤ 8) (ih : ∀ w0 w g st, RdO w0 w g st → Below w0.heap.size w0 w → Calls Try.prog 99 #[.pointer (some ⟨g, 0, none⟩), .int .i64 (d : Int)] w (ReadQ w0 w g (readS d st))) (w0 w : World) (g : Nat) (c : Int) (r : List Int) (h : RdO w0 w g (some (c :: r))) (hB : Below w0.heap.size w0 w) (hn : namedB c = false) (h5 : c = 5) :
    Calls Try.prog 99 #[.pointer (some ⟨g, 0, none⟩), .int .i64 ((d + 1 : Nat) : Int)] w (ReadQ w0 w g (readS (d + 1) (some (c :: r)))) := by
  have HE := Aside0.mk (show readS (d + 1) (some (c :: r)) = match readK (readS d) (Int.toNat (leastB c)) (countO (countO (some r) 1099511627776).2 1099511627776).2 with
      | some (ks, some s) => some (⟨c, emptyS, (countO (some r) 1099511627776).1, (countO (countO (some r) 1099511627776).2 1099511627776).1, ks⟩, s)
      | _ => none by
    rw [readS, take1]
    simp only [List.getD_cons_zero]
    unfold headR
    rw [if_neg (by rw [hn]; decide), if_pos h5]
    all_goals rfl)
  have HIH := Aside0.mk ih
  have HD8 := Aside0.mk hd
  have HU := Aside0.mk h.u8
  have hc0 := (show 0 ≤ c ∧ c ≤ 255 from h.u8.1.head).1
  have hc1 := (show 0 ≤ c ∧ c ≤ 255 from h.u8.1.head).2
  have z9 : (((d + 1 : Nat) : Int) == 0) = false := by rw [beq_eq_false_iff_ne]; omega
  have HW1 := Aside0.mk (show wrap64 (((d + 1 : Nat) : Int) - 1) = (d : Int) from by rw [Aid.w64 (by omega) (by omega)]; omega)
  have HNM := Aside0.mk hn
  have z5 : (c == 5) = true := by simp [h5]
  have HB := Aside0.mk (below_step hB (below_alloc (Below.refl w.heap.size w) (.cells #[.int .i64 0, .string ⟨#[]⟩, .int .i64 0, .int .i64 0, .slice none 0 0] 40)))
  have HS := Aside0.mk (h.below (below_alloc (Below.refl w.heap.size w) (.cells #[.int .i64 0, .string ⟨#[]⟩, .int .i64 0, .int .i64 0, .slice none 0 0] 40)))
  have H0 := Aside0.mk (show Blk (w.alloc (.cells #[.int .i64 0, .string ⟨#[]⟩, .int .i64 0, .int .i64 0, .slice none 0 0] 40)) w.heap.size 40 #[.int .i64 0, .string ⟨#[]⟩, .int .i64 0, .int .i64 0, .slice none 0 0] from blk_new _ _)
  have HG := Aside0.mk (show w0.heap.size ≤ w.heap.size ∧ g < w.heap.size from ⟨hB.size, h.blk.2.1⟩)
  have HKW := Aside0.mk (KeepBut.of_below (below_alloc (Below.refl w.heap.size w) (.cells #[.int .i64 0, .string ⟨#[]⟩, .int .i64 0, .int .i64 0, .slice none 0 0] 40)) g none)
  have hu40 := Try.underlying40
  obtain ⟨D, hD⟩ : ∃ D : Int, ((d + 1 : Nat) : Int) = D := ⟨_, rfl⟩
  rw [hD] at z9 HW1 ⊢
  clear h hB hd hD ih hn h5
  go_enter Try.func99, Try.ntmps99
  go_wp2_with (fail)
  refine (takeO_ w0 _ g (some (c :: r)) 1 HS.out HB.out).mono ?_
  rintro e w1 ⟨v, rfl, ho, hl⟩
  rw [take1] at ho hl
  obtain ⟨A5, c5, rfl, hl5, hr5⟩ := Ob.reads ho
  obtain ⟨ad5, rfl, hc5⟩ := Rb.at0 hr5
  have HL := Aside0.mk (show Tlv.Left w0 w w1 g (some r) from ⟨hl.1, hl.2.1, HKW.out.trans hl.2.2 (.inl rfl)⟩)
  have H01 := Aside0.mk (H0.out.keep hl.2.2 (by have := HG.out; omega))
  clear ho hl hl5 hr5
  go_wp2_with (fail)
  refine (okO w0 _ g (some r) HL.out.1).mono ?_
  rintro e w2 ⟨rfl, rfl⟩
  go_wp2_with (fail)
  refine (scope_kids.calls c (leastB c) (mostB c) _ (kids_v c)).mono ?_
  rintro e w3 ⟨rfl, hd⟩
  have hb := drawn_b hd
  have HL_3 := Aside0.mk (left_below (left_below HL.out (below_alloc (Below.refl _ _) _)) hb)
  have H0_3 := Aside0.mk ((H01.out.alloc (.cells #[.int .i64 c, .string ⟨#[]⟩, .int .i64 0, .int .i64 0, .slice none 0 0] 40)).below hb)
  have HT_3 := Aside0.mk ((show Blk (w1.alloc (.cells #[.int .i64 c, .string ⟨#[]⟩, .int .i64 0, .int .i64 0, .slice none 0 0] 40)) w1.heap.size 40 #[.int .i64 c, .string ⟨#[]⟩, .int .i64 0, .int .i64 0, .slice none 0 0] from blk_new _ _).below hb)
  clear hb hd
  have x0 := HT_3.out.cell 0
  have x1 := HT_3.out.cell 1
  have x2 := HT_3.out.cell 2
  have x3 := HT_3.out.cell 3
  have x4 := HT_3.out.cell 4
  simp only [List.getElem?_toArray, List.getElem?_cons_zero, List.getElem?_cons_succ] at x0 x1 x2 x3 x4
  go_wp2_with (fail)
  refine (scope_named.calls c (namedB c) _ (named_v c)).mono ?_
  rintro e w4 ⟨rfl, hd⟩
  rw [HNM.out]
  have hb := drawn_b hd
  have HL_4 := Aside0.mk (left_below HL_3.out hb)
  have H0_4 := Aside0.mk (H0_3.out.below hb)
  have HT_4 := Aside0.mk (HT_3.out.below hb)
  clear hb hd x0 x1 x2 x3 x4
  have x0 := HT_4.out.cell 0
  have x1 := HT_4.out.cell 1
  have x2 := HT_4.out.cell 2
  have x3 := HT_4.out.cell 3
  have x4 := HT_4.out.cell 4
  simp only [List.getElem?_toArray, List.getElem?_cons_zero, List.getElem?_cons_succ] at x0 x1 x2 x3 x4
  go_wp2_with (fail)
  refine (countO_ w0 _ g (some r) 1099511627776 HL_4.out.1 HL_4.out.2.1 (by decide)).mono ?_
  rintro e w5 ⟨rfl, hl⟩
  have HL_5 := Aside0.mk (HL_4.out.trans hl)
  have H0_5 := Aside0.mk (H0_4.out.keep hl.2.2 (by have := HG.out; omega))
  have HT_5 := Aside0.mk (HT_4.out.keep hl.2.2 (by have := HG.out; have := HL.out.2.2.1; omega))
  clear hl x0 x1 x2 x3 x4
  have x0 := HT_5.out.cell 0
  have x1 := HT_5.out.cell 1
  have x2 := HT_5.out.cell 2
  have x3 := HT_5.out.cell 3
  have x4 := HT_5.out.cell 4
  simp only [List.getElem?_toArray, List.getElem?_cons_zero, List.getElem?_cons_succ] at x0 x1 x2 x3 x4
  have f0 := blk_frozen HT_5.out 0
  have f1 := blk_frozen HT_5.out 1
  have f2 := blk_frozen HT_5.out 2
  have f3 := blk_frozen HT_5.out 3
  have f4 := blk_frozen HT_5.out 4
  go_wp2_with (fail)
  have HT_6 := Aside0.mk (show Blk (w5.setCell ⟨w1.heap.size, 2, none⟩ (.int .i64 (countO (some r) 1099511627776).1)) w1.heap.size 40 #[.int .i64 c, .string ⟨#[]⟩, .int .i64 (countO (some r) 1099511627776).1, .int .i64 0, .slice none 0 0] from by have h := blk_set HT_5.out 2 (.int .i64 (countO (some r) 1099511627776).1); simpa [Blk] using h)
  have HL_6 := Aside0.mk (left_set1 (j := 2) HL_5.out HT_5.out (by simp [NoU8]) (by simp [NoU8]) (by simp [NoU8]) (by simp [NoU8]) (by simp [NoU8]) (by have := HG.out; have := HL.out.2.2.1; omega) (by have := HG.out; have := HL.out.2.2.1; omega) HL.out.2.2.1 (.int .i64 (countO (some r) 1099511627776).1))
  have H0_6 := Aside0.mk (show Blk (w5.setCell ⟨w1.heap.size, 2, none⟩ (.int .i64 (countO (some r) 1099511627776).1)) w.heap.size 40 #[.int .i64 0, .string ⟨#[]⟩, .int .i64 0, .int .i64 0, .slice none 0 0] from blk_far H0_5.out (by have := HG.out; have := HL.out.2.2.1; have := H01.out.lt; dsimp only; omega) _)
  clear x0 x1 x2 x3 x4 f0 f1 f2 f3 f4
  refine (countO_ w0 _ g (countO (some r) 1099511627776).2 1099511627776 HL_6.out.1 HL_6.out.2.1 (by decide)).mono ?_
  rintro e w7 ⟨rfl, hl⟩
  have HL_7 := Aside0.mk (HL_6.out.trans hl)
  have H0_7 := Aside0.mk (H0_6.out.keep hl.2.2 (by have := HG.out; omega))
  have HT_7 := Aside0.mk (HT_6.out.keep hl.2.2 (by have := HG.out; have := HL.out.2.2.1; omega))
  clear hl
  have x0 := HT_7.out.cell 0
  have x1 := HT_7.out.cell 1
  have x2 := HT_7.out.cell 2
  have x3 := HT_7.out.cell 3
  have x4 := HT_7.out.cell 4
  simp only [List.getElem?_toArray, List.getElem?_cons_zero, List.getElem?_cons_succ] at x0 x1 x2 x3 x4
  have f0 := blk_frozen HT_7.out 0
  have f1 := blk_frozen HT_7.out 1
  have f2 := blk_frozen HT_7.out 2
  have f3 := blk_frozen HT_7.out 3
  have f4 := blk_frozen HT_7.out 4
  go_upto_region 13 with (fail)
  obtain ⟨W, hW⟩ : ∃ W, w7.setCell ⟨w1.heap.size, 3, none⟩ (.int .i64 (countO (countO (some r) 1099511627776).2 1099511627776).1) = W := ⟨_, rfl⟩
  have HKD := Aside0.mk (show Kids w0 w W g w1.heap.size c emptyS (countO (some r) 1099511627776).1 (countO (countO (some r) 1099511627776).2 1099511627776).1 [] (countO (countO (some r) 1099511627776).2 1099511627776).2 (w1.heap.size + 1) by rw [← hW]; exact ⟨.slice none 0 0, ⟨_, _, _, rfl⟩, by have h := blk_set HT_7.out 3 (.int .i64 (countO (countO (some r) 1099511627776).2 1099511627776).1); simpa [Blk, emptyS] using h, Kd.R_nil _ _ _ _ _, left_set1 HL_7.out HT_7.out (by simp [NoU8]) (by simp [NoU8]) (by simp [NoU8]) (by simp [NoU8]) (by simp [NoU8]) (by have := HG.out; have := HL.out.2.2.1; omega) (by have := HG.out; have := HL.out.2.2.1; omega) HL.out.2.2.1 _, blk_far H0_7.out (by have := HG.out; have := HL.out.2.2.1; have := H01.out.lt; dsimp only; omega) _⟩)
  rw [hW]
  have HGT := Aside0.mk (show w.heap.size < w1.heap.size by have := HL.out.2.2.1; have := H01.out.lt; omega)
  obtain ⟨gt, hgt⟩ : ∃ k, w1.heap.size = k := ⟨_, rfl⟩
  rw [hgt] at HKD HGT ⊢
  have hnr : 0 ≤ (leastB c) ∧ (leastB c) ≤ 24 := by unfold leastB; repeat' split <;> omega
  obtain ⟨N, hN⟩ : ∃ N : Nat, (leastB c) = (N : Int) := ⟨Int.toNat (leastB c), by omega⟩
  have HNL := Aside0.mk (show N ≤ 24 by omega)
  rw [hN, Int.toNat_natCast] at HE
  rw [hN]
  obtain ⟨tv, htv⟩ : ∃ k, (countO (countO (some r) 1099511627776).2 1099511627776).1 = k := ⟨_, rfl⟩
  obtain ⟨s2, hs2⟩ : ∃ k, (countO (countO (some r) 1099511627776).2 1099511627776).2 = k := ⟨_, rfl⟩
  obtain ⟨fv, hfv⟩ : ∃ k, (countO (some r) 1099511627776).1 = k := ⟨_, rfl⟩
  simp only [htv, hs2, hfv] at HKD HE ⊢
  have hw9 := HW1.out
  clear hW hgt hN hnr htv hs2 hfv
  go_wp2
  go_loopg [63] N (fun gf s63 wx => ∃ (i : Nat) (ks : List S40) (s : Option (List Int)) (wy : World), wy = wx ∧ s63 = .int .i64 (i : Int) ∧ i + gf = N ∧ ks.length = i ∧ Kids w0 w wy g gt c emptyS fv tv ks s (gt + 1) ∧ Rest d N s2 i ks s)
  case atStart => exact ⟨0, [], s2, _, rfl, rfl, by omega, rfl, HKD.out, by simp [Rest]; cases readK (readS d) N s2 <;> simp⟩
  case round =>
    obtain ⟨i, ks, s, wx, rfl, rfl, hi, hkl, ⟨v3, ⟨A3, n3, c3, rfl⟩, hT, hR, hL, h0⟩, hRe⟩ := hrel
    have HQ := Aside0.mk hi; have HLK := Aside0.mk hkl; have HT := Aside0.mk hT; have HR := Aside0.mk hR; have HLL := Aside0.mk hL; have H0 := Aside0.mk h0; have HRE := Aside0.mk hRe
    clear hi hkl hT hR hL h0 hRe HKD
    by_cases hlt : i < N
    · have hl1 : decide ((i : Int) < (N : Int)) = true := decide_eq_true (by omega)
      have hw1 : wrap64 ((i : Int) + 1) = ((i + 1 : Nat) : Int) := by have := HNL.out; rw [Aid.w64 (by omega) (by omega)]; omega
      have hc := HIH.out w0 wx g s HLL.out.1 HLL.out.2.1
      cases hr : readS d s with
      | none =>
        rw [hr] at hc
        have HC := Aside0.mk hc
        have HEE := Aside0.mk (HE.out.trans (by rw [rest_none HRE.out hlt hr]))
        clear hc hr
        go_wp2_with (fail)
        refine HC.out.mono ?_
        rintro e w' ⟨y0, y1, y2, y3, B3, m3, e3, s', rfl, hl'⟩
        have HL' := Aside0.mk (HLL.out.trans hl')
        have H0' := Aside0.mk (H0.out.keep hl'.2.2 (by have := HG.out; omega))
        have y0_ := fun o => blk_frozen (H0'.out.alloc o) 0
        have y1_ := fun o => blk_frozen (H0'.out.alloc o) 1
        have y2_ := fun o => blk_frozen (H0'.out.alloc o) 2
        have y3_ := fun o => blk_frozen (H0'.out.alloc o) 3
        have y4_ := fun o => blk_frozen (H0'.out.alloc o) 4
        have z0_ := fun o => (H0'.out.alloc o).cell 0
        have z1_ := fun o => (H0'.out.alloc o).cell 1
        have z2_ := fun o => (H0'.out.alloc o).cell 2
        have z3_ := fun o => (H0'.out.alloc o).cell 3
        have z4_ := fun o => (H0'.out.alloc o).cell 4
        simp only [List.getElem?_toArray, List.getElem?_cons_zero, List.getElem?_cons_succ] at z0_ z1_ z2_ z3_ z4_
        clear hl'
        go_wp2_with (fail)
        refine bodyPost_ret (results_ct rfl _ _ w.heap.size 40 #[.int .i64 0, .string ⟨#[]⟩, .int .i64 0, .int .i64 0, .slice none 0 0] (0, 0) _ rfl (set5 (H0'.out.alloc _) _ _ _ _ _) Try.underlying40 rfl (by kernel_rfl)) rfl ?_
        rw [HEE.out]
        exact ⟨0, ⟨#[]⟩, 0, 0, none, 0, 0, _, rfl, left_set5 (left_below HL'.out (below_alloc (Below.refl _ _) _)) (H0'.out.alloc _) (by simp [NoU8]) (by simp [NoU8]) (by simp [NoU8]) (by simp [NoU8]) (by simp [NoU8]) (by have := HG.out; omega) HG.out.1 (Nat.le_refl _) _ _ _ _ _⟩
      | some p =>
        obtain ⟨x, r'⟩ := p
        rw [hr] at hc
        have HC := Aside0.mk hc
        have HRS := Aside0.mk (rest_some HRE.out hlt hr)
        clear hc hr
        go_wp2_with (fail)
        refine HC.out.mono ?_
        rintro e w' ⟨q3_, rfl, ho3, hl'⟩
        obtain ⟨B3, e3, rfl⟩ := Kd.R_slice ho3
        have HL' := Aside0.mk (left_below (HLL.out.trans hl') (below_alloc (Below.refl _ _) (.cells #[.int .i64 x.f0, .string x.f1, .int .i64 x.f2, .int .i64 x.f3, .slice B3 x.f4.length e3] 40)))
        have H0' := Aside0.mk ((H0.out.keep hl'.2.2 (by have := HG.out; omega)).alloc (.cells #[.int .i64 x.f0, .string x.f1, .int .i64 x.f2, .int .i64 x.f3, .slice B3 x.f4.length e3] 40))
        have HT' := Aside0.mk ((HT.out.keep hl'.2.2 (by have := HG.out; have := HGT.out; omega)).alloc (.cells #[.int .i64 x.f0, .string x.f1, .int .i64 x.f2, .int .i64 x.f3, .slice B3 x.f4.length e3] 40))
        have HR' := Aside0.mk (Kd.R_alloc (Kd.R_keep HR.out hl'.2.2 (fun _ h => h.1)) (.cells #[.int .i64 x.f0, .string x.f1, .int .i64 x.f2, .int .i64 x.f3, .slice B3 x.f4.length e3] 40))
        have HM := Aside0.mk (k40_mkM _ (gt + 1) (fun k => wx.heap.size ≤ k) x (Kd.R_mono (Kd.R_lower (Kd.R_bound (Kd.R_alloc ho3 (.cells #[.int .i64 x.f0, .string x.f1, .int .i64 x.f2, .int .i64 x.f3, .slice B3 x.f4.length e3] 40))) (by have := HT.out.lt; omega)) (fun _ h => h.2.1)))
        have HOK := Aside0.mk (show ∀ k, wx.heap.size ≤ k → (k ≠ g ∧ k ≠ gt) ∧ some k ≠ (Value.slice A3 n3 c3).ownBlock from fun k hk => ⟨⟨by have := HG.out; have := HT.out.lt; have := HGT.out; omega, by have := HT.out.lt; omega⟩, fun e => by have := Kd.R_lt HR.out k e.symm; omega⟩)
        have HSZ := Aside0.mk (show gt + 1 ≤ (w'.alloc (.cells #[.int .i64 x.f0, .string x.f1, .int .i64 x.f2, .int .i64 x.f3, .slice B3 x.f4.length e3] 40)).heap.size from HT'.out.lt)
        have HFR := Aside0.mk (show ∀ k, (w'.alloc (.cells #[.int .i64 x.f0, .string x.f1, .int .i64 x.f2, .int .i64 x.f3, .slice B3 x.f4.length e3] 40)).heap.size ≤ k → k ≠ g ∧ k ≠ gt from fun k hk => ⟨by have := HG.out; have := HGT.out; have := HSZ.out; omega, by have := HSZ.out; omega⟩)
        have HLN := Aside0.mk (show (ks.length + 1) * 64 ≤ 140737488355328 by have := HLK.out; have := HQ.out; have := HNL.out; omega)
        have y_0 := HT'.out.cell 0
        have y_1 := HT'.out.cell 1
        have y_2 := HT'.out.cell 2
        have y_3 := HT'.out.cell 3
        have y_4 := HT'.out.cell 4
        simp only [List.getElem?_toArray, List.getElem?_cons_zero, List.getElem?_cons_succ] at y_0 y_1 y_2 y_3 y_4
        clear ho3 hl'
        go_wp2_with (first | ((with_reducible refine gate_builtin (b := .append) (xs := #[.tmp 76, .tmp 78]) rfl ?_); at_builtin; go_must (refine Kd.R_append k40 (gt + 1) rfl (.tmp 76) (.tmp 78) 38 40 (.agg #[.int .i64 0, .string ⟨#[]⟩, .int .i64 0, .int .i64 0, .slice none 0 0]) 64 rfl Try.underlying38 info_s rfl (by decide) (by decide) _ ks x _ (fun k => k ≠ g ∧ k ≠ gt) (fun k => wx.heap.size ≤ k) rfl (by rw [size_alloc_]; rfl) HM.out HOK.out HFR.out HR'.out (Below.refl _ _) HSZ.out HLN.out ?_); intro v1 w1' hr1 hb1 hg1 _; obtain ⟨A9, c9, rfl⟩ := Kd.R_slice hr1; have HMORE := Aside0.mk (kids_more HT'.out HR'.out HL'.out H0'.out hr1 hb1 hg1 HG.out HGT.out); have y3 := blk_frozen HMORE.out.1 4; have y4 := HMORE.out.1.cell 4; simp only [List.getElem?_toArray, List.getElem?_cons_zero, List.getElem?_cons_succ] at y4; clear hr1 hb1 hg1))
        go_roundg (N - (i + 1))
        case measure => have := HQ.out; omega
        case rel => exact ⟨i + 1, ks ++ [x], some r', _, rfl, by first | rfl | rw [hw1], by omega, by simp [HLK.out], by have hm := HMORE.out.2; rw [List.length_append] at hm; exact hm, HRS.out⟩
    · have hl1 : decide ((i : Int) < (N : Int)) = false := decide_eq_false (by omega)
      have HEE := Aside0.mk (HE.out.trans (by rw [rest_end HRE.out (by omega)]))
      have HKO := Aside0.mk (kids_out HR.out HLL.out H0.out HG.out HGT.out)
      have HTD := Aside0.mk (HT.out.below (below_drew1 (Below.refl _ _)))
      have H0D := Aside0.mk (H0.out.below (below_drew1 (Below.refl _ _)))
      have x0 := HTD.out.cell 0
      have x1 := HTD.out.cell 1
      have x2 := HTD.out.cell 2
      have x3 := HTD.out.cell 3
      have x4 := HTD.out.cell 4
      simp only [List.getElem?_toArray, List.getElem?_cons_zero, List.getElem?_cons_succ] at x0 x1 x2 x3 x4
      have y0 := blk_frozen H0D.out 0
      have y1 := blk_frozen H0D.out 1
      have y2 := blk_frozen H0D.out 2
      have y3 := blk_frozen H0D.out 3
      have y4 := blk_frozen H0D.out 4
      have z0 := H0D.out.cell 0
      have z1 := H0D.out.cell 1
      have z2 := H0D.out.cell 2
      have z3 := H0D.out.cell 3
      have z4 := H0D.out.cell 4
      simp only [List.getElem?_toArray, List.getElem?_cons_zero, List.getElem?_cons_succ] at z0 z1 z2 z3 z4
      have X0 := HT.out.cell 0
      have X1 := HT.out.cell 1
      have X2 := HT.out.cell 2
      have X3 := HT.out.cell 3
      have X4 := HT.out.cell 4
      simp only [List.getElem?_toArray, List.getElem?_cons_zero, List.getElem?_cons_succ] at X0 X1 X2 X3 X4
      have Y0 := blk_frozen H0.out 0
      have Y1 := blk_frozen H0.out 1
      have Y2 := blk_frozen H0.out 2
      have Y3 := blk_frozen H0.out 3
      have Y4 := blk_frozen H0.out 4
      have Z0 := H0.out.cell 0
      have Z1 := H0.out.cell 1
      have Z2 := H0.out.cell 2
      have Z3 := H0.out.cell 3
      have Z4 := H0.out.cell 4
      simp only [List.getElem?_toArray, List.getElem?_cons_zero, List.getElem?_cons_succ] at Z0 Z1 Z2 Z3 Z4
      go_wp2
      cases s with
      | none =>
        go_region_law (go_simp; go_at_call 89; refine (okO w0 _ g none (RdO.below HLL.out.1 (below_drew1 (Below.refl _ _)))).mono ?_; rintro e w2 ⟨rfl, rfl⟩)
        all_goals
          go_wp2_with (fail)
          refine bodyPost_ret (results_ct rfl _ _ w.heap.size 40 #[.int .i64 c, .string emptyS, .int .i64 fv, .int .i64 tv, .slice A3 n3 c3] (0, 0) _ rfl ((set5 H0.out _ _ _ _ _).below (below_drew1 (Below.refl _ _))) Try.underlying40 rfl (by kernel_rfl)) rfl ?_
          rw [HEE.out]
          exact ⟨c, emptyS, fv, tv, A3, n3, c3, none, rfl, left_below (HKO.out _ _ _ _ _).2 (below_drew1 (Below.refl _ _))⟩
      | some r' =>
        go_region_law (go_simp; go_at_call 89; refine (okO w0 _ g (some r') (RdO.below HLL.out.1 (below_drew1 (Below.refl _ _)))).mono ?_; rintro e w2 ⟨rfl, rfl⟩)
        all_goals
          go_wp2_with (fail)
          refine bodyPost_ret (results_ct rfl _ _ w.heap.size 40 #[.int .i64 c, .string emptyS, .int .i64 fv, .int .i64 tv, .slice A3 n3 c3] (0, 0) _ rfl ((set5 H0.out _ _ _ _ _).below (below_drew1 (Below.refl _ _))) Try.underlying40 rfl (by kernel_rfl)) rfl ?_
          rw [HEE.out]
          exact ⟨.slice A3 n3 c3, rfl, Kd.R_drew (HKO.out _ _ _ _ _).1, left_below (HKO.out _ _ _ _ _).2 (below_drew1 (Below.refl _ _))⟩

set_option maxHeartbeats 8000000 in
set_option maxRecDepth 100000 in
theorem read_M6 (d : Nat) (hd : d + 1 ≤ 8) (ih : ∀ w0 w g st, RdO w0 w g st → Below w0.heap.size w0 w → Calls Try.prog 99 #[.pointer (some ⟨g, 0, none⟩), .int .i64 (d : Int)] w (ReadQ w0 w g (readS d st))) (w0 w : World) (g : Nat) (c : Int) (r : List Int) (h : RdO w0 w g (some (c :: r))) (hB : Below w0.heap.size w0 w) (hn : namedB c = false) (h6 : c = 6) :
    Calls Try.prog 99 #[.pointer (some ⟨g, 0, none⟩), .int .i64 ((d + 1 : Nat) : Int)] w (ReadQ w0 w g (readS (d + 1) (some (c :: r)))) := by
  have HE := Aside0.mk (show readS (d + 1) (some (c :: r)) = match readK (readS d) (Int.toNat (countO (some r) 24).1) (countO (some r) 24).2 with
      | some (ks, some s) => some (⟨c, emptyS, 0, 0, ks⟩, s)
      | _ => none by
    rw [readS, take1]
    simp only [List.getD_cons_zero]
    unfold headR
    rw [if_neg (by rw [hn]; decide), if_neg (by omega), if_pos (.inl h6)]
    all_goals rfl)
  have HIH := Aside0.mk ih
  have HD8 := Aside0.mk hd
  have HU := Aside0.mk h.u8
  have hc0 := (show 0 ≤ c ∧ c ≤ 255 from h.u8.1.head).1
  have hc1 := (show 0 ≤ c ∧ c ≤ 255 from h.u8.1.head).2
  have z9 : (((d + 1 : Nat) : Int) == 0) = false := by rw [beq_eq_false_iff_ne]; omega
  have HW1 := Aside0.mk (show wrap64 (((d + 1 : Nat) : Int) - 1) = (d : Int) from by rw [Aid.w64 (by omega) (by omega)]; omega)
  have HNM := Aside0.mk hn
  have z5 : (c == 5) = false := by simp [h6]
  have z6 : (c == 6) = true := by simp [h6]
  have HB := Aside0.mk (below_step hB (below_alloc (Below.refl w.heap.size w) (.cells #[.int .i64 0, .string ⟨#[]⟩, .int .i64 0, .int .i64 0, .slice none 0 0] 40)))
  have HS := Aside0.mk (h.below (below_alloc (Below.refl w.heap.size w) (.cells #[.int .i64 0, .string ⟨#[]⟩, .int .i64 0, .int .i64 0, .slice none 0 0] 40)))
  have H0 := Aside0.mk (show Blk (w.alloc (.cells #[.int .i64 0, .string ⟨#[]⟩, .int .i64 0, .int .i64 0, .slice none 0 0] 40)) w.heap.size 40 #[.int .i64 0, .string ⟨#[]⟩, .int .i64 0, .int .i64 0, .slice none 0 0] from blk_new _ _)
  have HG := Aside0.mk (show w0.heap.size ≤ w.heap.size ∧ g < w.heap.size from ⟨hB.size, h.blk.2.1⟩)
  have HKW := Aside0.mk (KeepBut.of_below (below_alloc (Below.refl w.heap.size w) (.cells #[.int .i64 0, .string ⟨#[]⟩, .int .i64 0, .int .i64 0, .slice none 0 0] 40)) g none)
  have hu40 := Try.underlying40
  obtain ⟨D, hD⟩ : ∃ D : Int, ((d + 1 : Nat) : Int) = D := ⟨_, rfl⟩
  rw [hD] at z9 HW1 ⊢
  clear h hB hd hD ih hn h6
  go_enter Try.func99, Try.ntmps99
  go_wp2_with (fail)
  refine (takeO_ w0 _ g (some (c :: r)) 1 HS.out HB.out).mono ?_
  rintro e w1 ⟨v, rfl, ho, hl⟩
  rw [take1] at ho hl
  obtain ⟨A5, c5, rfl, hl5, hr5⟩ := Ob.reads ho
  obtain ⟨ad5, rfl, hc5⟩ := Rb.at0 hr5
  have HL := Aside0.mk (show Tlv.Left w0 w w1 g (some r) from ⟨hl.1, hl.2.1, HKW.out.trans hl.2.2 (.inl rfl)⟩)
  have H01 := Aside0.mk (H0.out.keep hl.2.2 (by have := HG.out; omega))
  clear ho hl hl5 hr5
  go_wp2_with (fail)
  refine (okO w0 _ g (some r) HL.out.1).mono ?_
  rintro e w2 ⟨rfl, rfl⟩
  go_wp2_with (fail)
  refine (scope_kids.calls c (leastB c) (mostB c) _ (kids_v c)).mono ?_
  rintro e w3 ⟨rfl, hd⟩
  have hb := drawn_b hd
  have HL_3 := Aside0.mk (left_below (left_below HL.out (below_alloc (Below.refl _ _) _)) hb)
  have H0_3 := Aside0.mk ((H01.out.alloc (.cells #[.int .i64 c, .string ⟨#[]⟩, .int .i64 0, .int .i64 0, .slice none 0 0] 40)).below hb)
  have HT_3 := Aside0.mk ((show Blk (w1.alloc (.cells #[.int .i64 c, .string ⟨#[]⟩, .int .i64 0, .int .i64 0, .slice none 0 0] 40)) w1.heap.size 40 #[.int .i64 c, .string ⟨#[]⟩, .int .i64 0, .int .i64 0, .slice none 0 0] from blk_new _ _).below hb)
  clear hb hd
  have x0 := HT_3.out.cell 0
  have x1 := HT_3.out.cell 1
  have x2 := HT_3.out.cell 2
  have x3 := HT_3.out.cell 3
  have x4 := HT_3.out.cell 4
  simp only [List.getElem?_toArray, List.getElem?_cons_zero, List.getElem?_cons_succ] at x0 x1 x2 x3 x4
  go_wp2_with (fail)
  refine (scope_named.calls c (namedB c) _ (named_v c)).mono ?_
  rintro e w4 ⟨rfl, hd⟩
  rw [HNM.out]
  have hb := drawn_b hd
  have HL_4 := Aside0.mk (left_below HL_3.out hb)
  have H0_4 := Aside0.mk (H0_3.out.below hb)
  have HT_4 := Aside0.mk (HT_3.out.below hb)
  clear hb hd x0 x1 x2 x3 x4
  have x0 := HT_4.out.cell 0
  have x1 := HT_4.out.cell 1
  have x2 := HT_4.out.cell 2
  have x3 := HT_4.out.cell 3
  have x4 := HT_4.out.cell 4
  simp only [List.getElem?_toArray, List.getElem?_cons_zero, List.getElem?_cons_succ] at x0 x1 x2 x3 x4
  go_wp2_with (fail)
  refine (countO_ w0 _ g (some r) 24 HL_4.out.1 HL_4.out.2.1 (by decide)).mono ?_
  rintro e w5 ⟨rfl, hl⟩
  have HL_5 := Aside0.mk (HL_4.out.trans hl)
  have H0_5 := Aside0.mk (H0_4.out.keep hl.2.2 (by have := HG.out; omega))
  have HT_5 := Aside0.mk (HT_4.out.keep hl.2.2 (by have := HG.out; have := HL.out.2.2.1; omega))
  clear hl x0 x1 x2 x3 x4
  have x0 := HT_5.out.cell 0
  have x1 := HT_5.out.cell 1
  have x2 := HT_5.out.cell 2
  have x3 := HT_5.out.cell 3
  have x4 := HT_5.out.cell 4
  simp only [List.getElem?_toArray, List.getElem?_cons_zero, List.getElem?_cons_succ] at x0 x1 x2 x3 x4
  have f0 := blk_frozen HT_5.out 0
  have f1 := blk_frozen HT_5.out 1
  have f2 := blk_frozen HT_5.out 2
  have f3 := blk_frozen HT_5.out 3
  have f4 := blk_frozen HT_5.out 4
  go_upto_region 13 with (fail)
  obtain ⟨W, hW⟩ : ∃ W, w5 = W := ⟨_, rfl⟩
  have HKD := Aside0.mk (show Kids w0 w W g w1.heap.size c emptyS 0 0 [] (countO (some r) 24).2 (w1.heap.size + 1) by rw [← hW]; exact ⟨.slice none 0 0, ⟨_, _, _, rfl⟩, HT_5.out, Kd.R_nil _ _ _ _ _, HL_5.out, H0_5.out⟩)
  rw [hW]
  have HGT := Aside0.mk (show w.heap.size < w1.heap.size by have := HL.out.2.2.1; have := H01.out.lt; omega)
  obtain ⟨gt, hgt⟩ : ∃ k, w1.heap.size = k := ⟨_, rfl⟩
  rw [hgt] at HKD HGT ⊢
  have hnr : 0 ≤ (countO (some r) 24).1 ∧ (countO (some r) 24).1 ≤ 24 := cnt_rng _ (by decide) (fun bs e => by cases e; exact HU.out.1.tail)
  obtain ⟨N, hN⟩ : ∃ N : Nat, (countO (some r) 24).1 = (N : Int) := ⟨Int.toNat (countO (some r) 24).1, by omega⟩
  have HNL := Aside0.mk (show N ≤ 24 by omega)
  rw [hN, Int.toNat_natCast] at HE
  rw [hN]
  obtain ⟨s2, hs2⟩ : ∃ k, (countO (some r) 24).2 = k := ⟨_, rfl⟩
  simp only [hs2] at HKD HE ⊢
  have hw9 := HW1.out
  clear hW hgt hN hnr hs2
  go_wp2
  go_loopg [63] N (fun gf s63 wx => ∃ (i : Nat) (ks : List S40) (s : Option (List Int)) (wy : World), wy = wx ∧ s63 = .int .i64 (i : Int) ∧ i + gf = N ∧ ks.length = i ∧ Kids w0 w wy g gt c emptyS 0 0 ks s (gt + 1) ∧ Rest d N s2 i ks s)
  case atStart => exact ⟨0, [], s2, _, rfl, rfl, by omega, rfl, HKD.out, by simp [Rest]; cases readK (readS d) N s2 <;> simp⟩
  case round =>
    obtain ⟨i, ks, s, wx, rfl, rfl, hi, hkl, ⟨v3, ⟨A3, n3, c3, rfl⟩, hT, hR, hL, h0⟩, hRe⟩ := hrel
    have HQ := Aside0.mk hi; have HLK := Aside0.mk hkl; have HT := Aside0.mk hT; have HR := Aside0.mk hR; have HLL := Aside0.mk hL; have H0 := Aside0.mk h0; have HRE := Aside0.mk hRe
    clear hi hkl hT hR hL h0 hRe HKD
    by_cases hlt : i < N
    · have hl1 : decide ((i : Int) < (N : Int)) = true := decide_eq_true (by omega)
      have hw1 : wrap64 ((i : Int) + 1) = ((i + 1 : Nat) : Int) := by have := HNL.out; rw [Aid.w64 (by omega) (by omega)]; omega
      have hc := HIH.out w0 wx g s HLL.out.1 HLL.out.2.1
      cases hr : readS d s with
      | none =>
        rw [hr] at hc
        have HC := Aside0.mk hc
        have HEE := Aside0.mk (HE.out.trans (by rw [rest_none HRE.out hlt hr]))
        clear hc hr
        go_wp2_with (fail)
        refine HC.out.mono ?_
        rintro e w' ⟨y0, y1, y2, y3, B3, m3, e3, s', rfl, hl'⟩
        have HL' := Aside0.mk (HLL.out.trans hl')
        have H0' := Aside0.mk (H0.out.keep hl'.2.2 (by have := HG.out; omega))
        have y0_ := fun o => blk_frozen (H0'.out.alloc o) 0
        have y1_ := fun o => blk_frozen (H0'.out.alloc o) 1
        have y2_ := fun o => blk_frozen (H0'.out.alloc o) 2
        have y3_ := fun o => blk_frozen (H0'.out.alloc o) 3
        have y4_ := fun o => blk_frozen (H0'.out.alloc o) 4
        have z0_ := fun o => (H0'.out.alloc o).cell 0
        have z1_ := fun o => (H0'.out.alloc o).cell 1
        have z2_ := fun o => (H0'.out.alloc o).cell 2
        have z3_ := fun o => (H0'.out.alloc o).cell 3
        have z4_ := fun o => (H0'.out.alloc o).cell 4
        simp only [List.getElem?_toArray, List.getElem?_cons_zero, List.getElem?_cons_succ] at z0_ z1_ z2_ z3_ z4_
        clear hl'
        go_wp2_with (fail)
        refine bodyPost_ret (results_ct rfl _ _ w.heap.size 40 #[.int .i64 0, .string ⟨#[]⟩, .int .i64 0, .int .i64 0, .slice none 0 0] (0, 0) _ rfl (set5 (H0'.out.alloc _) _ _ _ _ _) Try.underlying40 rfl (by kernel_rfl)) rfl ?_
        rw [HEE.out]
        exact ⟨0, ⟨#[]⟩, 0, 0, none, 0, 0, _, rfl, left_set5 (left_below HL'.out (below_alloc (Below.refl _ _) _)) (H0'.out.alloc _) (by simp [NoU8]) (by simp [NoU8]) (by simp [NoU8]) (by simp [NoU8]) (by simp [NoU8]) (by have := HG.out; omega) HG.out.1 (Nat.le_refl _) _ _ _ _ _⟩
      | some p =>
        obtain ⟨x, r'⟩ := p
        rw [hr] at hc
        have HC := Aside0.mk hc
        have HRS := Aside0.mk (rest_some HRE.out hlt hr)
        clear hc hr
        go_wp2_with (fail)
        refine HC.out.mono ?_
        rintro e w' ⟨q3_, rfl, ho3, hl'⟩
        obtain ⟨B3, e3, rfl⟩ := Kd.R_slice ho3
        have HL' := Aside0.mk (left_below (HLL.out.trans hl') (below_alloc (Below.refl _ _) (.cells #[.int .i64 x.f0, .string x.f1, .int .i64 x.f2, .int .i64 x.f3, .slice B3 x.f4.length e3] 40)))
        have H0' := Aside0.mk ((H0.out.keep hl'.2.2 (by have := HG.out; omega)).alloc (.cells #[.int .i64 x.f0, .string x.f1, .int .i64 x.f2, .int .i64 x.f3, .slice B3 x.f4.length e3] 40))
        have HT' := Aside0.mk ((HT.out.keep hl'.2.2 (by have := HG.out; have := HGT.out; omega)).alloc (.cells #[.int .i64 x.f0, .string x.f1, .int .i64 x.f2, .int .i64 x.f3, .slice B3 x.f4.length e3] 40))
        have HR' := Aside0.mk (Kd.R_alloc (Kd.R_keep HR.out hl'.2.2 (fun _ h => h.1)) (.cells #[.int .i64 x.f0, .string x.f1, .int .i64 x.f2, .int .i64 x.f3, .slice B3 x.f4.length e3] 40))
        have HM := Aside0.mk (k40_mkM _ (gt + 1) (fun k => wx.heap.size ≤ k) x (Kd.R_mono (Kd.R_lower (Kd.R_bound (Kd.R_alloc ho3 (.cells #[.int .i64 x.f0, .string x.f1, .int .i64 x.f2, .int .i64 x.f3, .slice B3 x.f4.length e3] 40))) (by have := HT.out.lt; omega)) (fun _ h => h.2.1)))
        have HOK := Aside0.mk (show ∀ k, wx.heap.size ≤ k → (k ≠ g ∧ k ≠ gt) ∧ some k ≠ (Value.slice A3 n3 c3).ownBlock from fun k hk => ⟨⟨by have := HG.out; have := HT.out.lt; have := HGT.out; omega, by have := HT.out.lt; omega⟩, fun e => by have := Kd.R_lt HR.out k e.symm; omega⟩)
        have HSZ := Aside0.mk (show gt + 1 ≤ (w'.alloc (.cells #[.int .i64 x.f0, .string x.f1, .int .i64 x.f2, .int .i64 x.f3, .slice B3 x.f4.length e3] 40)).heap.size from HT'.out.lt)
        have HFR := Aside0.mk (show ∀ k, (w'.alloc (.cells #[.int .i64 x.f0, .string x.f1, .int .i64 x.f2, .int .i64 x.f3, .slice B3 x.f4.length e3] 40)).heap.size ≤ k → k ≠ g ∧ k ≠ gt from fun k hk => ⟨by have := HG.out; have := HGT.out; have := HSZ.out; omega, by have := HSZ.out; omega⟩)
        have HLN := Aside0.mk (show (ks.length + 1) * 64 ≤ 140737488355328 by have := HLK.out; have := HQ.out; have := HNL.out; omega)
        have y_0 := HT'.out.cell 0
        have y_1 := HT'.out.cell 1
        have y_2 := HT'.out.cell 2
        have y_3 := HT'.out.cell 3
        have y_4 := HT'.out.cell 4
        simp only [List.getElem?_toArray, List.getElem?_cons_zero, List.getElem?_cons_succ] at y_0 y_1 y_2 y_3 y_4
        clear ho3 hl'
        go_wp2_with (first | ((with_reducible refine gate_builtin (b := .append) (xs := #[.tmp 76, .tmp 78]) rfl ?_); at_builtin; go_must (refine Kd.R_append k40 (gt + 1) rfl (.tmp 76) (.tmp 78) 38 40 (.agg #[.int .i64 0, .string ⟨#[]⟩, .int .i64 0, .int .i64 0, .slice none 0 0]) 64 rfl Try.underlying38 info_s rfl (by decide) (by decide) _ ks x _ (fun k => k ≠ g ∧ k ≠ gt) (fun k => wx.heap.size ≤ k) rfl (by rw [size_alloc_]; rfl) HM.out HOK.out HFR.out HR'.out (Below.refl _ _) HSZ.out HLN.out ?_); intro v1 w1' hr1 hb1 hg1 _; obtain ⟨A9, c9, rfl⟩ := Kd.R_slice hr1; have HMORE := Aside0.mk (kids_more HT'.out HR'.out HL'.out H0'.out hr1 hb1 hg1 HG.out HGT.out); have y3 := blk_frozen HMORE.out.1 4; have y4 := HMORE.out.1.cell 4; simp only [List.getElem?_toArray, List.getElem?_cons_zero, List.getElem?_cons_succ] at y4; clear hr1 hb1 hg1))
        go_roundg (N - (i + 1))
        case measure => have := HQ.out; omega
        case rel => exact ⟨i + 1, ks ++ [x], some r', _, rfl, by first | rfl | rw [hw1], by omega, by simp [HLK.out], by have hm := HMORE.out.2; rw [List.length_append] at hm; exact hm, HRS.out⟩
    · have hl1 : decide ((i : Int) < (N : Int)) = false := decide_eq_false (by omega)
      have HEE := Aside0.mk (HE.out.trans (by rw [rest_end HRE.out (by omega)]))
      have HKO := Aside0.mk (kids_out HR.out HLL.out H0.out HG.out HGT.out)
      have HTD := Aside0.mk (HT.out.below (below_drew1 (Below.refl _ _)))
      have H0D := Aside0.mk (H0.out.below (below_drew1 (Below.refl _ _)))
      have x0 := HTD.out.cell 0
      have x1 := HTD.out.cell 1
      have x2 := HTD.out.cell 2
      have x3 := HTD.out.cell 3
      have x4 := HTD.out.cell 4
      simp only [List.getElem?_toArray, List.getElem?_cons_zero, List.getElem?_cons_succ] at x0 x1 x2 x3 x4
      have y0 := blk_frozen H0D.out 0
      have y1 := blk_frozen H0D.out 1
      have y2 := blk_frozen H0D.out 2
      have y3 := blk_frozen H0D.out 3
      have y4 := blk_frozen H0D.out 4
      have z0 := H0D.out.cell 0
      have z1 := H0D.out.cell 1
      have z2 := H0D.out.cell 2
      have z3 := H0D.out.cell 3
      have z4 := H0D.out.cell 4
      simp only [List.getElem?_toArray, List.getElem?_cons_zero, List.getElem?_cons_succ] at z0 z1 z2 z3 z4
      have X0 := HT.out.cell 0
      have X1 := HT.out.cell 1
      have X2 := HT.out.cell 2
      have X3 := HT.out.cell 3
      have X4 := HT.out.cell 4
      simp only [List.getElem?_toArray, List.getElem?_cons_zero, List.getElem?_cons_succ] at X0 X1 X2 X3 X4
      have Y0 := blk_frozen H0.out 0
      have Y1 := blk_frozen H0.out 1
      have Y2 := blk_frozen H0.out 2
      have Y3 := blk_frozen H0.out 3
      have Y4 := blk_frozen H0.out 4
      have Z0 := H0.out.cell 0
      have Z1 := H0.out.cell 1
      have Z2 := H0.out.cell 2
      have Z3 := H0.out.cell 3
      have Z4 := H0.out.cell 4
      simp only [List.getElem?_toArray, List.getElem?_cons_zero, List.getElem?_cons_succ] at Z0 Z1 Z2 Z3 Z4
      go_wp2
      cases s with
      | none =>
        go_region_law (go_simp; go_at_call 89; refine (okO w0 _ g none (RdO.below HLL.out.1 (below_drew1 (Below.refl _ _)))).mono ?_; rintro e w2 ⟨rfl, rfl⟩)
        all_goals
          go_wp2_with (fail)
          refine bodyPost_ret (results_ct rfl _ _ w.heap.size 40 #[.int .i64 c, .string emptyS, .int .i64 0, .int .i64 0, .slice A3 n3 c3] (0, 0) _ rfl ((set5 H0.out _ _ _ _ _).below (below_drew1 (Below.refl _ _))) Try.underlying40 rfl (by kernel_rfl)) rfl ?_
          rw [HEE.out]
          exact ⟨c, emptyS, 0, 0, A3, n3, c3, none, rfl, left_below (HKO.out _ _ _ _ _).2 (below_drew1 (Below.refl _ _))⟩
      | some r' =>
        go_region_law (go_simp; go_at_call 89; refine (okO w0 _ g (some r') (RdO.below HLL.out.1 (below_drew1 (Below.refl _ _)))).mono ?_; rintro e w2 ⟨rfl, rfl⟩)
        all_goals
          go_wp2_with (fail)
          refine bodyPost_ret (results_ct rfl _ _ w.heap.size 40 #[.int .i64 c, .string emptyS, .int .i64 0, .int .i64 0, .slice A3 n3 c3] (0, 0) _ rfl ((set5 H0.out _ _ _ _ _).below (below_drew1 (Below.refl _ _))) Try.underlying40 rfl (by kernel_rfl)) rfl ?_
          rw [HEE.out]
          exact ⟨.slice A3 n3 c3, rfl, Kd.R_drew (HKO.out _ _ _ _ _).1, left_below (HKO.out _ _ _ _ _).2 (below_drew1 (Below.refl _ _))⟩

set_option maxHeartbeats 8000000 in
set_option maxRecDepth 100000 in
theorem read_M7 (d : Nat) (hd : d + 1 ≤ 8) (ih : ∀ w0 w g st, RdO w0 w g st → Below w0.heap.size w0 w → Calls Try.prog 99 #[.pointer (some ⟨g, 0, none⟩), .int .i64 (d : Int)] w (ReadQ w0 w g (readS d st))) (w0 w : World) (g : Nat) (c : Int) (r : List Int) (h : RdO w0 w g (some (c :: r))) (hB : Below w0.heap.size w0 w) (hn : namedB c = false) (h7 : c = 7) :
    Calls Try.prog 99 #[.pointer (some ⟨g, 0, none⟩), .int .i64 ((d + 1 : Nat) : Int)] w (ReadQ w0 w g (readS (d + 1) (some (c :: r)))) := by
  have HE := Aside0.mk (show readS (d + 1) (some (c :: r)) = match readK (readS d) (Int.toNat (countO (some r) 24).1) (countO (some r) 24).2 with
      | some (ks, some s) => some (⟨c, emptyS, 0, 0, ks⟩, s)
      | _ => none by
    rw [readS, take1]
    simp only [List.getD_cons_zero]
    unfold headR
    rw [if_neg (by rw [hn]; decide), if_neg (by omega), if_pos (.inr h7)]
    all_goals rfl)
  have HIH := Aside0.mk ih
  have HD8 := Aside0.mk hd
  have HU := Aside0.mk h.u8
  have hc0 := (show 0 ≤ c ∧ c ≤ 255 from h.u8.1.head).1
  have hc1 := (show 0 ≤ c ∧ c ≤ 255 from h.u8.1.head).2
  have z9 : (((d + 1 : Nat) : Int) == 0) = false := by rw [beq_eq_false_iff_ne]; omega
  have HW1 := Aside0.mk (show wrap64 (((d + 1 : Nat) : Int) - 1) = (d : Int) from by rw [Aid.w64 (by omega) (by omega)]; omega)
  have HNM := Aside0.mk hn
  have z5 : (c == 5) = false := by simp [h7]
  have z6 : (c == 6) = false := by simp [h7]
  have z7 : (c == 7) = true := by simp [h7]
  have HB := Aside0.mk (below_step hB (below_alloc (Below.refl w.heap.size w) (.cells #[.int .i64 0, .string ⟨#[]⟩, .int .i64 0, .int .i64 0, .slice none 0 0] 40)))
  have HS := Aside0.mk (h.below (below_alloc (Below.refl w.heap.size w) (.cells #[.int .i64 0, .string ⟨#[]⟩, .int .i64 0, .int .i64 0, .slice none 0 0] 40)))
  have H0 := Aside0.mk (show Blk (w.alloc (.cells #[.int .i64 0, .string ⟨#[]⟩, .int .i64 0, .int .i64 0, .slice none 0 0] 40)) w.heap.size 40 #[.int .i64 0, .string ⟨#[]⟩, .int .i64 0, .int .i64 0, .slice none 0 0] from blk_new _ _)
  have HG := Aside0.mk (show w0.heap.size ≤ w.heap.size ∧ g < w.heap.size from ⟨hB.size, h.blk.2.1⟩)
  have HKW := Aside0.mk (KeepBut.of_below (below_alloc (Below.refl w.heap.size w) (.cells #[.int .i64 0, .string ⟨#[]⟩, .int .i64 0, .int .i64 0, .slice none 0 0] 40)) g none)
  have hu40 := Try.underlying40
  obtain ⟨D, hD⟩ : ∃ D : Int, ((d + 1 : Nat) : Int) = D := ⟨_, rfl⟩
  rw [hD] at z9 HW1 ⊢
  clear h hB hd hD ih hn h7
  go_enter Try.func99, Try.ntmps99
  go_wp2_with (fail)
  refine (takeO_ w0 _ g (some (c :: r)) 1 HS.out HB.out).mono ?_
  rintro e w1 ⟨v, rfl, ho, hl⟩
  rw [take1] at ho hl
  obtain ⟨A5, c5, rfl, hl5, hr5⟩ := Ob.reads ho
  obtain ⟨ad5, rfl, hc5⟩ := Rb.at0 hr5
  have HL := Aside0.mk (show Tlv.Left w0 w w1 g (some r) from ⟨hl.1, hl.2.1, HKW.out.trans hl.2.2 (.inl rfl)⟩)
  have H01 := Aside0.mk (H0.out.keep hl.2.2 (by have := HG.out; omega))
  clear ho hl hl5 hr5
  go_wp2_with (fail)
  refine (okO w0 _ g (some r) HL.out.1).mono ?_
  rintro e w2 ⟨rfl, rfl⟩
  go_wp2_with (fail)
  refine (scope_kids.calls c (leastB c) (mostB c) _ (kids_v c)).mono ?_
  rintro e w3 ⟨rfl, hd⟩
  have hb := drawn_b hd
  have HL_3 := Aside0.mk (left_below (left_below HL.out (below_alloc (Below.refl _ _) _)) hb)
  have H0_3 := Aside0.mk ((H01.out.alloc (.cells #[.int .i64 c, .string ⟨#[]⟩, .int .i64 0, .int .i64 0, .slice none 0 0] 40)).below hb)
  have HT_3 := Aside0.mk ((show Blk (w1.alloc (.cells #[.int .i64 c, .string ⟨#[]⟩, .int .i64 0, .int .i64 0, .slice none 0 0] 40)) w1.heap.size 40 #[.int .i64 c, .string ⟨#[]⟩, .int .i64 0, .int .i64 0, .slice none 0 0] from blk_new _ _).below hb)
  clear hb hd
  have x0 := HT_3.out.cell 0
  have x1 := HT_3.out.cell 1
  have x2 := HT_3.out.cell 2
  have x3 := HT_3.out.cell 3
  have x4 := HT_3.out.cell 4
  simp only [List.getElem?_toArray, List.getElem?_cons_zero, List.getElem?_cons_succ] at x0 x1 x2 x3 x4
  go_wp2_with (fail)
  refine (scope_named.calls c (namedB c) _ (named_v c)).mono ?_
  rintro e w4 ⟨rfl, hd⟩
  rw [HNM.out]
  have hb := drawn_b hd
  have HL_4 := Aside0.mk (left_below HL_3.out hb)
  have H0_4 := Aside0.mk (H0_3.out.below hb)
  have HT_4 := Aside0.mk (HT_3.out.below hb)
  clear hb hd x0 x1 x2 x3 x4
  have x0 := HT_4.out.cell 0
  have x1 := HT_4.out.cell 1
  have x2 := HT_4.out.cell 2
  have x3 := HT_4.out.cell 3
  have x4 := HT_4.out.cell 4
  simp only [List.getElem?_toArray, List.getElem?_cons_zero, List.getElem?_cons_succ] at x0 x1 x2 x3 x4
  go_wp2_with (fail)
  refine (countO_ w0 _ g (some r) 24 HL_4.out.1 HL_4.out.2.1 (by decide)).mono ?_
  rintro e w5 ⟨rfl, hl⟩
  have HL_5 := Aside0.mk (HL_4.out.trans hl)
  have H0_5 := Aside0.mk (H0_4.out.keep hl.2.2 (by have := HG.out; omega))
  have HT_5 := Aside0.mk (HT_4.out.keep hl.2.2 (by have := HG.out; have := HL.out.2.2.1; omega))
  clear hl x0 x1 x2 x3 x4
  have x0 := HT_5.out.cell 0
  have x1 := HT_5.out.cell 1
  have x2 := HT_5.out.cell 2
  have x3 := HT_5.out.cell 3
  have x4 := HT_5.out.cell 4
  simp only [List.getElem?_toArray, List.getElem?_cons_zero, List.getElem?_cons_succ] at x0 x1 x2 x3 x4
  have f0 := blk_frozen HT_5.out 0
  have f1 := blk_frozen HT_5.out 1
  have f2 := blk_frozen HT_5.out 2
  have f3 := blk_frozen HT_5.out 3
  have f4 := blk_frozen HT_5.out 4
  go_upto_region 13 with (fail)
  obtain ⟨W, hW⟩ : ∃ W, w5 = W := ⟨_, rfl⟩
  have HKD := Aside0.mk (show Kids w0 w W g w1.heap.size c emptyS 0 0 [] (countO (some r) 24).2 (w1.heap.size + 1) by rw [← hW]; exact ⟨.slice none 0 0, ⟨_, _, _, rfl⟩, HT_5.out, Kd.R_nil _ _ _ _ _, HL_5.out, H0_5.out⟩)
  rw [hW]
  have HGT := Aside0.mk (show w.heap.size < w1.heap.size by have := HL.out.2.2.1; have := H01.out.lt; omega)
  obtain ⟨gt, hgt⟩ : ∃ k, w1.heap.size = k := ⟨_, rfl⟩
  rw [hgt] at HKD HGT ⊢
  have hnr : 0 ≤ (countO (some r) 24).1 ∧ (countO (some r) 24).1 ≤ 24 := cnt_rng _ (by decide) (fun bs e => by cases e; exact HU.out.1.tail)
  obtain ⟨N, hN⟩ : ∃ N : Nat, (countO (some r) 24).1 = (N : Int) := ⟨Int.toNat (countO (some r) 24).1, by omega⟩
  have HNL := Aside0.mk (show N ≤ 24 by omega)
  rw [hN, Int.toNat_natCast] at HE
  rw [hN]
  obtain ⟨s2, hs2⟩ : ∃ k, (countO (some r) 24).2 = k := ⟨_, rfl⟩
  simp only [hs2] at HKD HE ⊢
  have hw9 := HW1.out
  clear hW hgt hN hnr hs2
  go_wp2
  go_loopg [63] N (fun gf s63 wx => ∃ (i : Nat) (ks : List S40) (s : Option (List Int)) (wy : World), wy = wx ∧ s63 = .int .i64 (i : Int) ∧ i + gf = N ∧ ks.length = i ∧ Kids w0 w wy g gt c emptyS 0 0 ks s (gt + 1) ∧ Rest d N s2 i ks s)
  case atStart => exact ⟨0, [], s2, _, rfl, rfl, by omega, rfl, HKD.out, by simp [Rest]; cases readK (readS d) N s2 <;> simp⟩
  case round =>
    obtain ⟨i, ks, s, wx, rfl, rfl, hi, hkl, ⟨v3, ⟨A3, n3, c3, rfl⟩, hT, hR, hL, h0⟩, hRe⟩ := hrel
    have HQ := Aside0.mk hi; have HLK := Aside0.mk hkl; have HT := Aside0.mk hT; have HR := Aside0.mk hR; have HLL := Aside0.mk hL; have H0 := Aside0.mk h0; have HRE := Aside0.mk hRe
    clear hi hkl hT hR hL h0 hRe HKD
    by_cases hlt : i < N
    · have hl1 : decide ((i : Int) < (N : Int)) = true := decide_eq_true (by omega)
      have hw1 : wrap64 ((i : Int) + 1) = ((i + 1 : Nat) : Int) := by have := HNL.out; rw [Aid.w64 (by omega) (by omega)]; omega
      have hc := HIH.out w0 wx g s HLL.out.1 HLL.out.2.1
      cases hr : readS d s with
      | none =>
        rw [hr] at hc
        have HC := Aside0.mk hc
        have HEE := Aside0.mk (HE.out.trans (by rw [rest_none HRE.out hlt hr]))
        clear hc hr
        go_wp2_with (fail)
        refine HC.out.mono ?_
        rintro e w' ⟨y0, y1, y2, y3, B3, m3, e3, s', rfl, hl'⟩
        have HL' := Aside0.mk (HLL.out.trans hl')
        have H0' := Aside0.mk (H0.out.keep hl'.2.2 (by have := HG.out; omega))
        have y0_ := fun o => blk_frozen (H0'.out.alloc o) 0
        have y1_ := fun o => blk_frozen (H0'.out.alloc o) 1
        have y2_ := fun o => blk_frozen (H0'.out.alloc o) 2
        have y3_ := fun o => blk_frozen (H0'.out.alloc o) 3
        have y4_ := fun o => blk_frozen (H0'.out.alloc o) 4
        have z0_ := fun o => (H0'.out.alloc o).cell 0
        have z1_ := fun o => (H0'.out.alloc o).cell 1
        have z2_ := fun o => (H0'.out.alloc o).cell 2
        have z3_ := fun o => (H0'.out.alloc o).cell 3
        have z4_ := fun o => (H0'.out.alloc o).cell 4
        simp only [List.getElem?_toArray, List.getElem?_cons_zero, List.getElem?_cons_succ] at z0_ z1_ z2_ z3_ z4_
        clear hl'
        go_wp2_with (fail)
        refine bodyPost_ret (results_ct rfl _ _ w.heap.size 40 #[.int .i64 0, .string ⟨#[]⟩, .int .i64 0, .int .i64 0, .slice none 0 0] (0, 0) _ rfl (set5 (H0'.out.alloc _) _ _ _ _ _) Try.underlying40 rfl (by kernel_rfl)) rfl ?_
        rw [HEE.out]
        exact ⟨0, ⟨#[]⟩, 0, 0, none, 0, 0, _, rfl, left_set5 (left_below HL'.out (below_alloc (Below.refl _ _) _)) (H0'.out.alloc _) (by simp [NoU8]) (by simp [NoU8]) (by simp [NoU8]) (by simp [NoU8]) (by simp [NoU8]) (by have := HG.out; omega) HG.out.1 (Nat.le_refl _) _ _ _ _ _⟩
      | some p =>
        obtain ⟨x, r'⟩ := p
        rw [hr] at hc
        have HC := Aside0.mk hc
        have HRS := Aside0.mk (rest_some HRE.out hlt hr)
        clear hc hr
        go_wp2_with (fail)
        refine HC.out.mono ?_
        rintro e w' ⟨q3_, rfl, ho3, hl'⟩
        obtain ⟨B3, e3, rfl⟩ := Kd.R_slice ho3
        have HL' := Aside0.mk (left_below (HLL.out.trans hl') (below_alloc (Below.refl _ _) (.cells #[.int .i64 x.f0, .string x.f1, .int .i64 x.f2, .int .i64 x.f3, .slice B3 x.f4.length e3] 40)))
        have H0' := Aside0.mk ((H0.out.keep hl'.2.2 (by have := HG.out; omega)).alloc (.cells #[.int .i64 x.f0, .string x.f1, .int .i64 x.f2, .int .i64 x.f3, .slice B3 x.f4.length e3] 40))
        have HT' := Aside0.mk ((HT.out.keep hl'.2.2 (by have := HG.out; have := HGT.out; omega)).alloc (.cells #[.int .i64 x.f0, .string x.f1, .int .i64 x.f2, .int .i64 x.f3, .slice B3 x.f4.length e3] 40))
        have HR' := Aside0.mk (Kd.R_alloc (Kd.R_keep HR.out hl'.2.2 (fun _ h => h.1)) (.cells #[.int .i64 x.f0, .string x.f1, .int .i64 x.f2, .int .i64 x.f3, .slice B3 x.f4.length e3] 40))
        have HM := Aside0.mk (k40_mkM _ (gt + 1) (fun k => wx.heap.size ≤ k) x (Kd.R_mono (Kd.R_lower (Kd.R_bound (Kd.R_alloc ho3 (.cells #[.int .i64 x.f0, .string x.f1, .int .i64 x.f2, .int .i64 x.f3, .slice B3 x.f4.length e3] 40))) (by have := HT.out.lt; omega)) (fun _ h => h.2.1)))
        have HOK := Aside0.mk (show ∀ k, wx.heap.size ≤ k → (k ≠ g ∧ k ≠ gt) ∧ some k ≠ (Value.slice A3 n3 c3).ownBlock from fun k hk => ⟨⟨by have := HG.out; have := HT.out.lt; have := HGT.out; omega, by have := HT.out.lt; omega⟩, fun e => by have := Kd.R_lt HR.out k e.symm; omega⟩)
        have HSZ := Aside0.mk (show gt + 1 ≤ (w'.alloc (.cells #[.int .i64 x.f0, .string x.f1, .int .i64 x.f2, .int .i64 x.f3, .slice B3 x.f4.length e3] 40)).heap.size from HT'.out.lt)
        have HFR := Aside0.mk (show ∀ k, (w'.alloc (.cells #[.int .i64 x.f0, .string x.f1, .int .i64 x.f2, .int .i64 x.f3, .slice B3 x.f4.length e3] 40)).heap.size ≤ k → k ≠ g ∧ k ≠ gt from fun k hk => ⟨by have := HG.out; have := HGT.out; have := HSZ.out; omega, by have := HSZ.out; omega⟩)
        have HLN := Aside0.mk (show (ks.length + 1) * 64 ≤ 140737488355328 by have := HLK.out; have := HQ.out; have := HNL.out; omega)
        have y_0 := HT'.out.cell 0
        have y_1 := HT'.out.cell 1
        have y_2 := HT'.out.cell 2
        have y_3 := HT'.out.cell 3
        have y_4 := HT'.out.cell 4
        simp only [List.getElem?_toArray, List.getElem?_cons_zero, List.getElem?_cons_succ] at y_0 y_1 y_2 y_3 y_4
        clear ho3 hl'
        go_wp2_with (first | ((with_reducible refine gate_builtin (b := .append) (xs := #[.tmp 76, .tmp 78]) rfl ?_); at_builtin; go_must (refine Kd.R_append k40 (gt + 1) rfl (.tmp 76) (.tmp 78) 38 40 (.agg #[.int .i64 0, .string ⟨#[]⟩, .int .i64 0, .int .i64 0, .slice none 0 0]) 64 rfl Try.underlying38 info_s rfl (by decide) (by decide) _ ks x _ (fun k => k ≠ g ∧ k ≠ gt) (fun k => wx.heap.size ≤ k) rfl (by rw [size_alloc_]; rfl) HM.out HOK.out HFR.out HR'.out (Below.refl _ _) HSZ.out HLN.out ?_); intro v1 w1' hr1 hb1 hg1 _; obtain ⟨A9, c9, rfl⟩ := Kd.R_slice hr1; have HMORE := Aside0.mk (kids_more HT'.out HR'.out HL'.out H0'.out hr1 hb1 hg1 HG.out HGT.out); have y3 := blk_frozen HMORE.out.1 4; have y4 := HMORE.out.1.cell 4; simp only [List.getElem?_toArray, List.getElem?_cons_zero, List.getElem?_cons_succ] at y4; clear hr1 hb1 hg1))
        go_roundg (N - (i + 1))
        case measure => have := HQ.out; omega
        case rel => exact ⟨i + 1, ks ++ [x], some r', _, rfl, by first | rfl | rw [hw1], by omega, by simp [HLK.out], by have hm := HMORE.out.2; rw [List.length_append] at hm; exact hm, HRS.out⟩
    · have hl1 : decide ((i : Int) < (N : Int)) = false := decide_eq_false (by omega)
      have HEE := Aside0.mk (HE.out.trans (by rw [rest_end HRE.out (by omega)]))
      have HKO := Aside0.mk (kids_out HR.out HLL.out H0.out HG.out HGT.out)
      have HTD := Aside0.mk (HT.out.below (below_drew1 (Below.refl _ _)))
      have H0D := Aside0.mk (H0.out.below (below_drew1 (Below.refl _ _)))
      have x0 := HTD.out.cell 0
      have x1 := HTD.out.cell 1
      have x2 := HTD.out.cell 2
      have x3 := HTD.out.cell 3
      have x4 := HTD.out.cell 4
      simp only [List.getElem?_toArray, List.getElem?_cons_zero, List.getElem?_cons_succ] at x0 x1 x2 x3 x4
      have y0 := blk_frozen H0D.out 0
      have y1 := blk_frozen H0D.out 1
      have y2 := blk_frozen H0D.out 2
      have y3 := blk_frozen H0D.out 3
      have y4 := blk_frozen H0D.out 4
      have z0 := H0D.out.cell 0
      have z1 := H0D.out.cell 1
      have z2 := H0D.out.cell 2
      have z3 := H0D.out.cell 3
      have z4 := H0D.out.cell 4
      simp only [List.getElem?_toArray, List.getElem?_cons_zero, List.getElem?_cons_succ] at z0 z1 z2 z3 z4
      have X0 := HT.out.cell 0
      have X1 := HT.out.cell 1
      have X2 := HT.out.cell 2
      have X3 := HT.out.cell 3
      have X4 := HT.out.cell 4
      simp only [List.getElem?_toArray, List.getElem?_cons_zero, List.getElem?_cons_succ] at X0 X1 X2 X3 X4
      have Y0 := blk_frozen H0.out 0
      have Y1 := blk_frozen H0.out 1
      have Y2 := blk_frozen H0.out 2
      have Y3 := blk_frozen H0.out 3
      have Y4 := blk_frozen H0.out 4
      have Z0 := H0.out.cell 0
      have Z1 := H0.out.cell 1
      have Z2 := H0.out.cell 2
      have Z3 := H0.out.cell 3
      have Z4 := H0.out.cell 4
      simp only [List.getElem?_toArray, List.getElem?_cons_zero, List.getElem?_cons_succ] at Z0 Z1 Z2 Z3 Z4
      go_wp2
      cases s with
      | none =>
        go_region_law (go_simp; go_at_call 89; refine (okO w0 _ g none (RdO.below HLL.out.1 (below_drew1 (Below.refl _ _)))).mono ?_; rintro e w2 ⟨rfl, rfl⟩)
        all_goals
          go_wp2_with (fail)
          refine bodyPost_ret (results_ct rfl _ _ w.heap.size 40 #[.int .i64 c, .string emptyS, .int .i64 0, .int .i64 0, .slice A3 n3 c3] (0, 0) _ rfl ((set5 H0.out _ _ _ _ _).below (below_drew1 (Below.refl _ _))) Try.underlying40 rfl (by kernel_rfl)) rfl ?_
          rw [HEE.out]
          exact ⟨c, emptyS, 0, 0, A3, n3, c3, none, rfl, left_below (HKO.out _ _ _ _ _).2 (below_drew1 (Below.refl _ _))⟩
      | some r' =>
        go_region_law (go_simp; go_at_call 89; refine (okO w0 _ g (some r') (RdO.below HLL.out.1 (below_drew1 (Below.refl _ _)))).mono ?_; rintro e w2 ⟨rfl, rfl⟩)
        all_goals
          go_wp2_with (fail)
          refine bodyPost_ret (results_ct rfl _ _ w.heap.size 40 #[.int .i64 c, .string emptyS, .int .i64 0, .int .i64 0, .slice A3 n3 c3] (0, 0) _ rfl ((set5 H0.out _ _ _ _ _).below (below_drew1 (Below.refl _ _))) Try.underlying40 rfl (by kernel_rfl)) rfl ?_
          rw [HEE.out]
          exact ⟨.slice A3 n3 c3, rfl, Kd.R_drew (HKO.out _ _ _ _ _).1, left_below (HKO.out _ _ _ _ _).2 (below_drew1 (Below.refl _ _))⟩

set_option maxHeartbeats 8000000 in
set_option maxRecDepth 100000 in
theorem read_O (d : Nat) (hd : d + 1 ≤ 8) (ih : ∀ w0 w g st, RdO w0 w g st → Below w0.heap.size w0 w → Calls Try.prog 99 #[.pointer (some ⟨g, 0, none⟩), .int .i64 (d : Int)] w (ReadQ w0 w g (readS d st))) (w0 w : World) (g : Nat) (c : Int) (r : List Int) (h : RdO w0 w g (some (c :: r))) (hB : Below w0.heap.size w0 w) (hn : namedB c = false) (h5 : c ≠ 5) (h6 : c ≠ 6) (h7 : c ≠ 7) :
    Calls Try.prog 99 #[.pointer (some ⟨g, 0, none⟩), .int .i64 ((d + 1 : Nat) : Int)] w (ReadQ w0 w g (readS (d + 1) (some (c :: r)))) := by
  have HE := Aside0.mk (show readS (d + 1) (some (c :: r)) = match readK (readS d) (Int.toNat (leastB c)) (some r) with
      | some (ks, some s) => some (⟨c, emptyS, 0, 0, ks⟩, s)
      | _ => none by
    rw [readS, take1]
    simp only [List.getD_cons_zero]
    unfold headR
    rw [if_neg (by rw [hn]; decide), if_neg h5, if_neg (by omega)]
    all_goals rfl)
  have HIH := Aside0.mk ih
  have HD8 := Aside0.mk hd
  have HU := Aside0.mk h.u8
  have hc0 := (show 0 ≤ c ∧ c ≤ 255 from h.u8.1.head).1
  have hc1 := (show 0 ≤ c ∧ c ≤ 255 from h.u8.1.head).2
  have z9 : (((d + 1 : Nat) : Int) == 0) = false := by rw [beq_eq_false_iff_ne]; omega
  have HW1 := Aside0.mk (show wrap64 (((d + 1 : Nat) : Int) - 1) = (d : Int) from by rw [Aid.w64 (by omega) (by omega)]; omega)
  have HNM := Aside0.mk hn
  have z5 : (c == 5) = false := by simp [h5]
  have z6 : (c == 6) = false := by simp [h6]
  have z7 : (c == 7) = false := by simp [h7]
  have HB := Aside0.mk (below_step hB (below_alloc (Below.refl w.heap.size w) (.cells #[.int .i64 0, .string ⟨#[]⟩, .int .i64 0, .int .i64 0, .slice none 0 0] 40)))
  have HS := Aside0.mk (h.below (below_alloc (Below.refl w.heap.size w) (.cells #[.int .i64 0, .string ⟨#[]⟩, .int .i64 0, .int .i64 0, .slice none 0 0] 40)))
  have H0 := Aside0.mk (show Blk (w.alloc (.cells #[.int .i64 0, .string ⟨#[]⟩, .int .i64 0, .int .i64 0, .slice none 0 0] 40)) w.heap.size 40 #[.int .i64 0, .string ⟨#[]⟩, .int .i64 0, .int .i64 0, .slice none 0 0] from blk_new _ _)
  have HG := Aside0.mk (show w0.heap.size ≤ w.heap.size ∧ g < w.heap.size from ⟨hB.size, h.blk.2.1⟩)
  have HKW := Aside0.mk (KeepBut.of_below (below_alloc (Below.refl w.heap.size w) (.cells #[.int .i64 0, .string ⟨#[]⟩, .int .i64 0, .int .i64 0, .slice none 0 0] 40)) g none)
  have hu40 := Try.underlying40
  obtain ⟨D, hD⟩ : ∃ D : Int, ((d + 1 : Nat) : Int) = D := ⟨_, rfl⟩
  rw [hD] at z9 HW1 ⊢
  clear h hB hd hD ih hn h5 h6 h7
  go_enter Try.func99, Try.ntmps99
  go_wp2_with (fail)
  refine (takeO_ w0 _ g (some (c :: r)) 1 HS.out HB.out).mono ?_
  rintro e w1 ⟨v, rfl, ho, hl⟩
  rw [take1] at ho hl
  obtain ⟨A5, c5, rfl, hl5, hr5⟩ := Ob.reads ho
  obtain ⟨ad5, rfl, hc5⟩ := Rb.at0 hr5
  have HL := Aside0.mk (show Tlv.Left w0 w w1 g (some r) from ⟨hl.1, hl.2.1, HKW.out.trans hl.2.2 (.inl rfl)⟩)
  have H01 := Aside0.mk (H0.out.keep hl.2.2 (by have := HG.out; omega))
  clear ho hl hl5 hr5
  go_wp2_with (fail)
  refine (okO w0 _ g (some r) HL.out.1).mono ?_
  rintro e w2 ⟨rfl, rfl⟩
  go_wp2_with (fail)
  refine (scope_kids.calls c (leastB c) (mostB c) _ (kids_v c)).mono ?_
  rintro e w3 ⟨rfl, hd⟩
  have hb := drawn_b hd
  have HL_3 := Aside0.mk (left_below (left_below HL.out (below_alloc (Below.refl _ _) _)) hb)
  have H0_3 := Aside0.mk ((H01.out.alloc (.cells #[.int .i64 c, .string ⟨#[]⟩, .int .i64 0, .int .i64 0, .slice none 0 0] 40)).below hb)
  have HT_3 := Aside0.mk ((show Blk (w1.alloc (.cells #[.int .i64 c, .string ⟨#[]⟩, .int .i64 0, .int .i64 0, .slice none 0 0] 40)) w1.heap.size 40 #[.int .i64 c, .string ⟨#[]⟩, .int .i64 0, .int .i64 0, .slice none 0 0] from blk_new _ _).below hb)
  clear hb hd
  have x0 := HT_3.out.cell 0
  have x1 := HT_3.out.cell 1
  have x2 := HT_3.out.cell 2
  have x3 := HT_3.out.cell 3
  have x4 := HT_3.out.cell 4
  simp only [List.getElem?_toArray, List.getElem?_cons_zero, List.getElem?_cons_succ] at x0 x1 x2 x3 x4
  go_wp2_with (fail)
  refine (scope_named.calls c (namedB c) _ (named_v c)).mono ?_
  rintro e w4 ⟨rfl, hd⟩
  rw [HNM.out]
  have hb := drawn_b hd
  have HL_4 := Aside0.mk (left_below HL_3.out hb)
  have H0_4 := Aside0.mk (H0_3.out.below hb)
  have HT_4 := Aside0.mk (HT_3.out.below hb)
  clear hb hd x0 x1 x2 x3 x4
  have x0 := HT_4.out.cell 0
  have x1 := HT_4.out.cell 1
  have x2 := HT_4.out.cell 2
  have x3 := HT_4.out.cell 3
  have x4 := HT_4.out.cell 4
  simp only [List.getElem?_toArray, List.getElem?_cons_zero, List.getElem?_cons_succ] at x0 x1 x2 x3 x4
  go_upto_region 13 with (fail)
  obtain ⟨W, hW⟩ : ∃ W, w4 = W := ⟨_, rfl⟩
  have HKD := Aside0.mk (show Kids w0 w W g w1.heap.size c emptyS 0 0 [] (some r) (w1.heap.size + 1) by rw [← hW]; exact ⟨.slice none 0 0, ⟨_, _, _, rfl⟩, HT_4.out, Kd.R_nil _ _ _ _ _, HL_4.out, H0_4.out⟩)
  rw [hW]
  have HGT := Aside0.mk (show w.heap.size < w1.heap.size by have := HL.out.2.2.1; have := H01.out.lt; omega)
  obtain ⟨gt, hgt⟩ : ∃ k, w1.heap.size = k := ⟨_, rfl⟩
  rw [hgt] at HKD HGT ⊢
  have hnr : 0 ≤ (leastB c) ∧ (leastB c) ≤ 24 := by unfold leastB; repeat' split <;> omega
  obtain ⟨N, hN⟩ : ∃ N : Nat, (leastB c) = (N : Int) := ⟨Int.toNat (leastB c), by omega⟩
  have HNL := Aside0.mk (show N ≤ 24 by omega)
  rw [hN, Int.toNat_natCast] at HE
  rw [hN]
  obtain ⟨s2, hs2⟩ : ∃ k, (some r) = k := ⟨_, rfl⟩
  obtain rfl := hs2
  have hw9 := HW1.out
  clear hW hgt hN hnr
  go_wp2
  go_loopg [63] N (fun gf s63 wx => ∃ (i : Nat) (ks : List S40) (s : Option (List Int)) (wy : World), wy = wx ∧ s63 = .int .i64 (i : Int) ∧ i + gf = N ∧ ks.length = i ∧ Kids w0 w wy g gt c emptyS 0 0 ks s (gt + 1) ∧ Rest d N (some r) i ks s)
  case atStart => exact ⟨0, [], (some r), _, rfl, rfl, by omega, rfl, HKD.out, by simp [Rest]; cases readK (readS d) N (some r) <;> simp⟩
  case round =>
    obtain ⟨i, ks, s, wx, rfl, rfl, hi, hkl, ⟨v3, ⟨A3, n3, c3, rfl⟩, hT, hR, hL, h0⟩, hRe⟩ := hrel
    have HQ := Aside0.mk hi; have HLK := Aside0.mk hkl; have HT := Aside0.mk hT; have HR := Aside0.mk hR; have HLL := Aside0.mk hL; have H0 := Aside0.mk h0; have HRE := Aside0.mk hRe
    clear hi hkl hT hR hL h0 hRe HKD
    by_cases hlt : i < N
    · have hl1 : decide ((i : Int) < (N : Int)) = true := decide_eq_true (by omega)
      have hw1 : wrap64 ((i : Int) + 1) = ((i + 1 : Nat) : Int) := by have := HNL.out; rw [Aid.w64 (by omega) (by omega)]; omega
      have hc := HIH.out w0 wx g s HLL.out.1 HLL.out.2.1
      cases hr : readS d s with
      | none =>
        rw [hr] at hc
        have HC := Aside0.mk hc
        have HEE := Aside0.mk (HE.out.trans (by rw [rest_none HRE.out hlt hr]))
        clear hc hr
        go_wp2_with (fail)
        refine HC.out.mono ?_
        rintro e w' ⟨y0, y1, y2, y3, B3, m3, e3, s', rfl, hl'⟩
        have HL' := Aside0.mk (HLL.out.trans hl')
        have H0' := Aside0.mk (H0.out.keep hl'.2.2 (by have := HG.out; omega))
        have y0_ := fun o => blk_frozen (H0'.out.alloc o) 0
        have y1_ := fun o => blk_frozen (H0'.out.alloc o) 1
        have y2_ := fun o => blk_frozen (H0'.out.alloc o) 2
        have y3_ := fun o => blk_frozen (H0'.out.alloc o) 3
        have y4_ := fun o => blk_frozen (H0'.out.alloc o) 4
        have z0_ := fun o => (H0'.out.alloc o).cell 0
        have z1_ := fun o => (H0'.out.alloc o).cell 1
        have z2_ := fun o => (H0'.out.alloc o).cell 2
        have z3_ := fun o => (H0'.out.alloc o).cell 3
        have z4_ := fun o => (H0'.out.alloc o).cell 4
        simp only [List.getElem?_toArray, List.getElem?_cons_zero, List.getElem?_cons_succ] at z0_ z1_ z2_ z3_ z4_
        clear hl'
        go_wp2_with (fail)
        refine bodyPost_ret (results_ct rfl _ _ w.heap.size 40 #[.int .i64 0, .string ⟨#[]⟩, .int .i64 0, .int .i64 0, .slice none 0 0] (0, 0) _ rfl (set5 (H0'.out.alloc _) _ _ _ _ _) Try.underlying40 rfl (by kernel_rfl)) rfl ?_
        rw [HEE.out]
        exact ⟨0, ⟨#[]⟩, 0, 0, none, 0, 0, _, rfl, left_set5 (left_below HL'.out (below_alloc (Below.refl _ _) _)) (H0'.out.alloc _) (by simp [NoU8]) (by simp [NoU8]) (by simp [NoU8]) (by simp [NoU8]) (by simp [NoU8]) (by have := HG.out; omega) HG.out.1 (Nat.le_refl _) _ _ _ _ _⟩
      | some p =>
        obtain ⟨x, r'⟩ := p
        rw [hr] at hc
        have HC := Aside0.mk hc
        have HRS := Aside0.mk (rest_some HRE.out hlt hr)
        clear hc hr
        go_wp2_with (fail)
        refine HC.out.mono ?_
        rintro e w' ⟨q3_, rfl, ho3, hl'⟩
        obtain ⟨B3, e3, rfl⟩ := Kd.R_slice ho3
        have HL' := Aside0.mk (left_below (HLL.out.trans hl') (below_alloc (Below.refl _ _) (.cells #[.int .i64 x.f0, .string x.f1, .int .i64 x.f2, .int .i64 x.f3, .slice B3 x.f4.length e3] 40)))
        have H0' := Aside0.mk ((H0.out.keep hl'.2.2 (by have := HG.out; omega)).alloc (.cells #[.int .i64 x.f0, .string x.f1, .int .i64 x.f2, .int .i64 x.f3, .slice B3 x.f4.length e3] 40))
        have HT' := Aside0.mk ((HT.out.keep hl'.2.2 (by have := HG.out; have := HGT.out; omega)).alloc (.cells #[.int .i64 x.f0, .string x.f1, .int .i64 x.f2, .int .i64 x.f3, .slice B3 x.f4.length e3] 40))
        have HR' := Aside0.mk (Kd.R_alloc (Kd.R_keep HR.out hl'.2.2 (fun _ h => h.1)) (.cells #[.int .i64 x.f0, .string x.f1, .int .i64 x.f2, .int .i64 x.f3, .slice B3 x.f4.length e3] 40))
        have HM := Aside0.mk (k40_mkM _ (gt + 1) (fun k => wx.heap.size ≤ k) x (Kd.R_mono (Kd.R_lower (Kd.R_bound (Kd.R_alloc ho3 (.cells #[.int .i64 x.f0, .string x.f1, .int .i64 x.f2, .int .i64 x.f3, .slice B3 x.f4.length e3] 40))) (by have := HT.out.lt; omega)) (fun _ h => h.2.1)))
        have HOK := Aside0.mk (show ∀ k, wx.heap.size ≤ k → (k ≠ g ∧ k ≠ gt) ∧ some k ≠ (Value.slice A3 n3 c3).ownBlock from fun k hk => ⟨⟨by have := HG.out; have := HT.out.lt; have := HGT.out; omega, by have := HT.out.lt; omega⟩, fun e => by have := Kd.R_lt HR.out k e.symm; omega⟩)
        have HSZ := Aside0.mk (show gt + 1 ≤ (w'.alloc (.cells #[.int .i64 x.f0, .string x.f1, .int .i64 x.f2, .int .i64 x.f3, .slice B3 x.f4.length e3] 40)).heap.size from HT'.out.lt)
        have HFR := Aside0.mk (show ∀ k, (w'.alloc (.cells #[.int .i64 x.f0, .string x.f1, .int .i64 x.f2, .int .i64 x.f3, .slice B3 x.f4.length e3] 40)).heap.size ≤ k → k ≠ g ∧ k ≠ gt from fun k hk => ⟨by have := HG.out; have := HGT.out; have := HSZ.out; omega, by have := HSZ.out; omega⟩)
        have HLN := Aside0.mk (show (ks.length + 1) * 64 ≤ 140737488355328 by have := HLK.out; have := HQ.out; have := HNL.out; omega)
        have y_0 := HT'.out.cell 0
        have y_1 := HT'.out.cell 1
        have y_2 := HT'.out.cell 2
        have y_3 := HT'.out.cell 3
        have y_4 := HT'.out.cell 4
        simp only [List.getElem?_toArray, List.getElem?_cons_zero, List.getElem?_cons_succ] at y_0 y_1 y_2 y_3 y_4
        clear ho3 hl'
        go_wp2_with (first | ((with_reducible refine gate_builtin (b := .append) (xs := #[.tmp 76, .tmp 78]) rfl ?_); at_builtin; go_must (refine Kd.R_append k40 (gt + 1) rfl (.tmp 76) (.tmp 78) 38 40 (.agg #[.int .i64 0, .string ⟨#[]⟩, .int .i64 0, .int .i64 0, .slice none 0 0]) 64 rfl Try.underlying38 info_s rfl (by decide) (by decide) _ ks x _ (fun k => k ≠ g ∧ k ≠ gt) (fun k => wx.heap.size ≤ k) rfl (by rw [size_alloc_]; rfl) HM.out HOK.out HFR.out HR'.out (Below.refl _ _) HSZ.out HLN.out ?_); intro v1 w1' hr1 hb1 hg1 _; obtain ⟨A9, c9, rfl⟩ := Kd.R_slice hr1; have HMORE := Aside0.mk (kids_more HT'.out HR'.out HL'.out H0'.out hr1 hb1 hg1 HG.out HGT.out); have y3 := blk_frozen HMORE.out.1 4; have y4 := HMORE.out.1.cell 4; simp only [List.getElem?_toArray, List.getElem?_cons_zero, List.getElem?_cons_succ] at y4; clear hr1 hb1 hg1))
        go_roundg (N - (i + 1))
        case measure => have := HQ.out; omega
        case rel => exact ⟨i + 1, ks ++ [x], some r', _, rfl, by first | rfl | rw [hw1], by omega, by simp [HLK.out], by have hm := HMORE.out.2; rw [List.length_append] at hm; exact hm, HRS.out⟩
    · have hl1 : decide ((i : Int) < (N : Int)) = false := decide_eq_false (by omega)
      have HEE := Aside0.mk (HE.out.trans (by rw [rest_end HRE.out (by omega)]))
      have HKO := Aside0.mk (kids_out HR.out HLL.out H0.out HG.out HGT.out)
      have HTD := Aside0.mk (HT.out.below (below_drew1 (Below.refl _ _)))
      have H0D := Aside0.mk (H0.out.below (below_drew1 (Below.refl _ _)))
      have x0 := HTD.out.cell 0
      have x1 := HTD.out.cell 1
      have x2 := HTD.out.cell 2
      have x3 := HTD.out.cell 3
      have x4 := HTD.out.cell 4
      simp only [List.getElem?_toArray, List.getElem?_cons_zero, List.getElem?_cons_succ] at x0 x1 x2 x3 x4
      have y0 := blk_frozen H0D.out 0
      have y1 := blk_frozen H0D.out 1
      have y2 := blk_frozen H0D.out 2
      have y3 := blk_frozen H0D.out 3
      have y4 := blk_frozen H0D.out 4
      have z0 := H0D.out.cell 0
      have z1 := H0D.out.cell 1
      have z2 := H0D.out.cell 2
      have z3 := H0D.out.cell 3
      have z4 := H0D.out.cell 4
      simp only [List.getElem?_toArray, List.getElem?_cons_zero, List.getElem?_cons_succ] at z0 z1 z2 z3 z4
      have X0 := HT.out.cell 0
      have X1 := HT.out.cell 1
      have X2 := HT.out.cell 2
      have X3 := HT.out.cell 3
      have X4 := HT.out.cell 4
      simp only [List.getElem?_toArray, List.getElem?_cons_zero, List.getElem?_cons_succ] at X0 X1 X2 X3 X4
      have Y0 := blk_frozen H0.out 0
      have Y1 := blk_frozen H0.out 1
      have Y2 := blk_frozen H0.out 2
      have Y3 := blk_frozen H0.out 3
      have Y4 := blk_frozen H0.out 4
      have Z0 := H0.out.cell 0
      have Z1 := H0.out.cell 1
      have Z2 := H0.out.cell 2
      have Z3 := H0.out.cell 3
      have Z4 := H0.out.cell 4
      simp only [List.getElem?_toArray, List.getElem?_cons_zero, List.getElem?_cons_succ] at Z0 Z1 Z2 Z3 Z4
      go_wp2
      cases s with
      | none =>
        go_region_law (go_simp; go_at_call 89; refine (okO w0 _ g none (RdO.below HLL.out.1 (below_drew1 (Below.refl _ _)))).mono ?_; rintro e w2 ⟨rfl, rfl⟩)
        all_goals
          go_wp2_with (fail)
          refine bodyPost_ret (results_ct rfl _ _ w.heap.size 40 #[.int .i64 c, .string emptyS, .int .i64 0, .int .i64 0, .slice A3 n3 c3] (0, 0) _ rfl ((set5 H0.out _ _ _ _ _).below (below_drew1 (Below.refl _ _))) Try.underlying40 rfl (by kernel_rfl)) rfl ?_
          rw [HEE.out]
          exact ⟨c, emptyS, 0, 0, A3, n3, c3, none, rfl, left_below (HKO.out _ _ _ _ _).2 (below_drew1 (Below.refl _ _))⟩
      | some r' =>
        go_region_law (go_simp; go_at_call 89; refine (okO w0 _ g (some r') (RdO.below HLL.out.1 (below_drew1 (Below.refl _ _)))).mono ?_; rintro e w2 ⟨rfl, rfl⟩)
        all_goals
          go_wp2_with (fail)
          refine bodyPost_ret (results_ct rfl _ _ w.heap.size 40 #[.int .i64 c, .string emptyS, .int .i64 0, .int .i64 0, .slice A3 n3 c3] (0, 0) _ rfl ((set5 H0.out _ _ _ _ _).below (below_drew1 (Below.refl _ _))) Try.underlying40 rfl (by kernel_rfl)) rfl ?_
          rw [HEE.out]
          exact ⟨.slice A3 n3 c3, rfl, Kd.R_drew (HKO.out _ _ _ _ _).1, left_below (HKO.out _ _ _ _ _).2 (below_drew1 (Below.refl _ _))⟩

set_option maxHeartbeats 1000000 in
theorem read_c : ∀ (d : Nat), d ≤ 8 → ∀ (w0 w : World) (g : Nat) (st : Option (List Int)), RdO w0 w g st → Below w0.heap.size w0 w →
    Calls Try.prog 99 #[.pointer (some ⟨g, 0, none⟩), .int .i64 (d : Int)] w (ReadQ w0 w g (readS d st)) := by
  intro d
  induction d with
  | zero =>
    intro hd w0 w g st h hB
    match st, h with
    | none, h => exact read_fail 0 hd w0 w g none h hB (by simp [takeO])
    | some [], h => exact read_fail 0 hd w0 w g (some []) h hB (by simp [takeO])
    | some (c :: r), h => exact read_zero w0 w g c r h hB
  | succ d ih =>
    intro hd w0 w g st h hB
    match st, h with
    | none, h => exact read_fail (d + 1) hd w0 w g none h hB (by simp [takeO])
    | some [], h => exact read_fail (d + 1) hd w0 w g (some []) h hB (by simp [takeO])
    | some (c :: r), h =>
      have ih' := ih (by omega)
      cases hn : namedB c with
      | true => exact read_N d hd ih' w0 w g c r h hB hn
      | false =>
        by_cases h5 : c = 5
        · exact read_T d hd ih' w0 w g c r h hB hn h5
        by_cases h6 : c = 6
        · exact read_M6 d hd ih' w0 w g c r h hB hn h6
        by_cases h7 : c = 7
        · exact read_M7 d hd ih' w0 w g c r h hB hn h7
        exact read_O d hd ih' w0 w g c r h hB hn h5 h6 h7

end Go.Proofs.Ytgdpabedlghiaaa.Scope
/- The walks of the document's reader. -/
namespace Go.Proofs.Ytgdpabedlghiaaa.Rf
open Go.Proofs.Ytgdpabedlghiaaa.Base Go.Proofs.Ytgdpabedlghiaaa.TlvPlain Go.Proofs.Ytgdpabedlghiaaa.Lo Go.RowKit Go.Proofs.YtgdpabedlghiaaaW.PrintWords Go.Proofs.YtgdpabedlghiaaaW.PrintLast Go.Proofs.YtgdpabedlghiaaaW.PrintMore

/-- A cut of bytes, and in which block it lies. -/
theorem cut2 {P : Program} (t e : TypeId) (kl : IntKind) {i : TypeInfo} (ht : P.underlying t = some (.slice e)) (hi : P.info? e = some i) (hsz : i.size = 1) (A : Option Addr) (n c m : Nat) (hm : m ≤ n) :
    ∃ A' : Option Addr, (∀ W : World, (Instr.slice t (.slice A n c) (some (.int kl (m : Int))) none none).run P W = .ok (.slice A' (n - m) (c - m)) W) ∧
      (∀ (w : World) (k : IntKind) (xs : List Int), n ≤ c → ReadsInt w k A n xs → ReadsInt w k A' (n - m) (xs.drop m)) ∧ (∀ ad', A' = some ad' → ∃ ad, A = some ad ∧ ad'.block = ad.block) := by
  refine ⟨if c = m then A else A.map (·.add m), fun W => ?_, fun w k xs hc h => h.drop_ m hm hc, fun ad' h => ?_⟩
  · have hel : P.elem t = e := by simp [Program.elem, ht]
    have hu : P.underlying t = some (.slice (P.elem t)) := by rw [hel]; exact ht
    rw [run_slice_l W t A n c hu kl (m : Int) (Int.natCast_nonneg _) (by omega), hel]
    simp [sizeOf, typeInfo, hi, hsz, sliced, Result.andThen]
  · split at h
    · exact ⟨ad', h, rfl⟩
    · obtain ⟨ad, h1, rfl⟩ := Option.map_eq_some_iff.1 h
      exact ⟨ad, h1, by unfold Addr.add; split <;> rfl⟩
/-- The document's reader at block g: the bytes that are left, and whether it failed. -/
def Rdr (w0 W : World) (g : Nat) (failed : Bool) (bs : List Int) : Prop :=
  w0.heap.size ≤ g ∧ ∃ A c, W.heap[g]? = some (.cells #[.slice A bs.length c, .bool failed] 115 (0, 0)) ∧ bs.length ≤ c ∧ Rb W A bs ∧ bs.length < 140737488355328 ∧ U8 bs ∧ ∀ ad, A = some ad → ad.block < g
theorem Rdr.lower {w0 w1 W : World} {g : Nat} {f : Bool} {bs : List Int} (h : Rdr w1 W g f bs) (hs : w0.heap.size ≤ w1.heap.size) : Rdr w0 W g f bs := ⟨Nat.le_trans hs h.1, h.2⟩
theorem cells_no_int {f : Bool} {A : Option Addr} {n c : Nat} (i : Nat) (v : Value) (h : (#[.slice A n c, Value.bool f] : Array Value)[i]? = some v) (k : Int) : v ≠ .int .u8 k := by
  match i, h with
  | 0, h => cases h; simp
  | 1, h => cases h; simp
theorem Rdr.below {w0 W W1 : World} {g : Nat} {f : Bool} {bs : List Int} (h : Rdr w0 W g f bs) (hb : Below W.heap.size W W1) : Rdr w0 W1 g f bs := by
  obtain ⟨h0, A, c, h1, h2, h3, h4⟩ := h
  exact ⟨h0, A, c, (hb.block g (blk_lt h1)).trans h1, h2, Kd.C_below h3 hb, h4⟩
/-- Where another block alone was written, in which no numbers lie. -/
theorem Rdr.keep {w0 W W1 : World} {g g' : Nat} {f : Bool} {bs : List Int} (h : Rdr w0 W g f bs) (hk : KeepBut W W1 g' none) (hne : g ≠ g') {T : Nat} {cs : Array Value} (hb : W.heap[g']? = some (.cells cs T (0, 0))) (hcs : ∀ i : Nat, ∀ v, cs[i]? = some v → ∀ n, v ≠ Value.int .u8 n) : Rdr w0 W1 g f bs := by
  obtain ⟨h0, A, c, h1, h2, h3, h4⟩ := h
  exact ⟨h0, A, c, hk.blk h1 hne (by simp), h2, reads_keep h3 hk (reads_ne hb hcs h3), h4⟩
theorem Rdr.grown {w0 W W1 : World} {g : Nat} {f : Bool} {bs : List Int} {row : Option Nat} (h : Rdr w0 W g f bs) (hg : W.grownBy W1 row) (hr : ∀ b, row = some b → g < b) : Rdr w0 W1 g f bs := by
  obtain ⟨h0, A, c, h1, h2, h3, h4⟩ := h
  have hne : some g ≠ row := fun e => Nat.lt_irrefl g (hr g e.symm)
  refine ⟨h0, A, c, blk_grown h1 hg hne, h2, ?_, h4⟩
  cases row with
  | none => exact reads_keep h3 (KeepBut.of_grown hg W.heap.size) (fun ad e _ => by have := h4.2.2 ad e; have := blk_lt h1; omega)
  | some q =>
    have hk : KeepBut W W1 q none := ⟨hg.size, fun i hi h1 _ => hg.block i hi (fun e => h1 (Option.some.inj e))⟩
    exact reads_keep h3 hk (fun ad e _ => by have := h4.2.2 ad e; have := hr q rfl; omega)
theorem Rdr.set {w0 W : World} {g : Nat} {f : Bool} {bs : List Int} (h : Rdr w0 W g f bs) (f' : Bool) : Rdr w0 (W.setCell ⟨g, 1, none⟩ (.bool f')) g f' bs := by
  obtain ⟨h0, A, c, h1, h2, h3, h4⟩ := h
  exact ⟨h0, A, c, by simpa using blk_set h1 1 (.bool f'), h2, reads_keep h3 (keep_set _ _ _ _) (reads_ne h1 cells_no_int h3), h4⟩
theorem Rdr.cut {w0 W : World} {g : Nat} {f : Bool} {bs cs : List Int} (h : Rdr w0 W g f bs) {A' : Option Addr} {c' : Nat} (hc : cs.length ≤ c') (hr : Rb W A' cs) (hl : cs.length ≤ bs.length) (hu : U8 cs) (hbl : ∀ ad, A' = some ad → ad.block < g) : Rdr w0 (W.setCell ⟨g, 0, none⟩ (.slice A' cs.length c')) g f cs := by
  obtain ⟨h0, A, c, h1, h2, h3, h4⟩ := h
  exact ⟨h0, A', c', by simpa using blk_set h1 0 (.slice A' cs.length c'), hc, reads_keep hr (keep_set _ _ _ _) (reads_ne h1 cells_no_int hr), Nat.lt_of_le_of_lt hl h4.1, hu, hbl⟩

/-- The reader's state: the bytes that are left, or that it failed. -/
def RfO (w0 W : World) (g : Nat) (st : Option (List Int)) : Prop :=
  match st with
  | some bs => Rdr w0 W g false bs
  | none => ∃ bs, Rdr w0 W g true bs
theorem RfO.any {w0 W : World} {g : Nat} {st : Option (List Int)} (h : RfO w0 W g st) : ∃ bs, Rdr w0 W g (!st.isSome) bs := by
  cases st with
  | some bs => exact ⟨bs, h⟩
  | none => exact h
theorem RfO.below {w0 W W1 : World} {g : Nat} {st : Option (List Int)} (h : RfO w0 W g st) (hb : Below W.heap.size W W1) : RfO w0 W1 g st := by
  cases st with
  | some bs => exact Rdr.below h hb
  | none => obtain ⟨bs, h⟩ := h; exact ⟨bs, h.below hb⟩
theorem RfO.keep {w0 W W1 : World} {g g' : Nat} {st : Option (List Int)} (h : RfO w0 W g st) (hk : KeepBut W W1 g' none) (hne : g ≠ g') {T : Nat} {cs : Array Value} (hb : W.heap[g']? = some (.cells cs T (0, 0))) (hcs : ∀ i : Nat, ∀ v, cs[i]? = some v → ∀ n, v ≠ Value.int .u8 n) : RfO w0 W1 g st := by
  cases st with
  | some bs => exact Rdr.keep h hk hne hb hcs
  | none => obtain ⟨bs, h⟩ := h; exact ⟨bs, h.keep hk hne hb hcs⟩
theorem RfO.grown {w0 W W1 : World} {g : Nat} {st : Option (List Int)} {row : Option Nat} (h : RfO w0 W g st) (hg : W.grownBy W1 row) (hr : ∀ b, row = some b → g < b) : RfO w0 W1 g st := by
  cases st with
  | some bs => exact Rdr.grown h hg hr
  | none => obtain ⟨bs, h⟩ := h; exact ⟨bs, h.grown hg hr⟩
theorem RfO.lower {w0 w1 W : World} {g : Nat} {st : Option (List Int)} (h : RfO w1 W g st) (hs : w0.heap.size ≤ w1.heap.size) : RfO w0 W g st := by
  cases st with
  | some bs => exact Rdr.lower h hs
  | none => obtain ⟨bs, h⟩ := h; exact ⟨bs, h.lower hs⟩
theorem RfO.blk {w0 W : World} {g : Nat} {st : Option (List Int)} (h : RfO w0 W g st) : w0.heap.size ≤ g ∧ g < W.heap.size ∧ ∃ cs, W.heap[g]? = some (.cells cs 115 (0, 0)) ∧ ∀ i : Nat, ∀ v, cs[i]? = some v → ∀ n, v ≠ Value.int .u8 n := by
  obtain ⟨bs, h0, A, c, h1, _⟩ := h.any
  exact ⟨h0, blk_lt h1, _, h1, cells_no_int⟩
theorem RfO.u8 {w0 W : World} {g : Nat} {bs : List Int} (h : RfO w0 W g (some bs)) : U8 bs ∧ bs.length < 140737488355328 := by
  obtain ⟨_, _, _, _, _, _, h1, h2⟩ := (show Rdr w0 W g false bs from h)
  exact ⟨h2.1, h1⟩
/-- What its field Fail reads as. -/
theorem RfO.fail {w0 W : World} {g : Nat} {st : Option (List Int)} (h : RfO w0 W g st) : W.cell? ⟨g, 1, none⟩ = some (.bool (!st.isSome)) ∧ W.frozen? ⟨g, 1, none⟩ = false := by
  obtain ⟨bs, _, A, c, h1, _⟩ := h.any
  exact ⟨(blk_cell h1 1).trans rfl, blk_frozen h1 1⟩
/-- What its field B reads as. -/
theorem RfO.bytes {w0 W : World} {g : Nat} {bs : List Int} (h : RfO w0 W g (some bs)) : ∃ A c, W.cell? ⟨g, 0, none⟩ = some (.slice A bs.length c) ∧ bs.length ≤ c ∧ Rb W A bs := by
  obtain ⟨_, A, c, h1, h2, h3, _⟩ := (show Rdr w0 W g false bs from h)
  exact ⟨A, c, (blk_cell h1 0).trans rfl, h2, h3⟩
theorem RfO.set {w0 W : World} {g : Nat} {st : Option (List Int)} (h : RfO w0 W g st) : RfO w0 (W.setCell ⟨g, 1, none⟩ (.bool true)) g none := by
  obtain ⟨bs, h⟩ := h.any
  exact ⟨bs, h.set true⟩
/-- What a call that is handed a reader leaves. -/
def Left (w0 w w' : World) (g : Nat) (st : Option (List Int)) : Prop := RfO w0 w' g st ∧ Below w0.heap.size w0 w' ∧ KeepBut w w' g none
theorem Left.trans {w0 w w1 w2 : World} {g : Nat} {s1 s2 : Option (List Int)} (h : Left w0 w w1 g s1) (k : Left w0 w1 w2 g s2) : Left w0 w w2 g s2 := ⟨k.1, k.2.1, h.2.2.trans k.2.2 (.inl rfl)⟩
theorem Left.set {w0 w w' : World} {g : Nat} {st : Option (List Int)} (h : Left w0 w w' g st) : Left w0 w (w'.setCell ⟨g, 1, none⟩ (.bool true)) g none := ⟨h.1.set, below_set h.2.1 h.1.blk.1, h.2.2.set_ 1 _⟩

set_option maxHeartbeats 1600000 in
set_option maxRecDepth 100000 in
theorem take_bad (w0 w : World) (g : Nat) (f : Bool) (bs : List Int) (n : Int) (h : Rdr w0 w g f bs) (hB : Below w0.heap.size w0 w) (hbad : ¬ (f = false ∧ 0 ≤ n ∧ n ≤ bs.length)) :
    Calls Try.prog 122 #[.pointer (some ⟨g, 0, none⟩), .int .i64 n] w fun e w' => ∃ v, e = .returned v ∧ Ob w' w.heap.size v [] ∧ Left w0 w w' g none := by
  have HB := Aside0.mk hB
  clear hB
  have hfin : Left w0 w (w.setCell ⟨g, 1, none⟩ (.bool true)) g none := ⟨⟨bs, h.set true⟩, below_set HB.out h.1, keep_set _ _ _ _⟩
  have HF := Aside0.mk hfin
  clear hfin
  obtain ⟨_, A, c, h1, _⟩ := h
  have hc0 : w.cell? ⟨g, 0, none⟩ = some (.slice A bs.length c) := (blk_cell h1 0).trans rfl
  have hc1 : w.cell? ⟨g, 1, none⟩ = some (.bool f) := (blk_cell h1 1).trans rfl
  have hf1 := blk_frozen h1 1
  clear h1
  cases f with
  | false =>
    by_cases hn : n < 0
    · have hd : decide (n < 0) = true := decide_eq_true hn
      clear hbad hn
      go_enter Try.func122, Try.ntmps122
      go_wp2
      go_ret
      exact ⟨_, rfl, Kd.R_nil _ _ _ _ _, HF.out⟩
    · have hd : decide (n < 0) = false := decide_eq_false hn
      have hg : decide ((bs.length : Int) < n) = true := decide_eq_true (by
        by_cases h2 : (bs.length : Int) < n
        · exact h2
        · exact absurd ⟨rfl, by omega, by omega⟩ hbad)
      clear hbad hn
      go_enter Try.func122, Try.ntmps122
      go_wp2
      go_ret
      exact ⟨_, rfl, Kd.R_nil _ _ _ _ _, HF.out⟩
  | true =>
    clear hbad
    go_enter Try.func122, Try.ntmps122
    go_wp2
    go_ret
    exact ⟨_, rfl, Kd.R_nil _ _ _ _ _, HF.out⟩

set_option maxHeartbeats 1600000 in
set_option maxRecDepth 100000 in
theorem take_good (w0 w : World) (g : Nat) (bs : List Int) (n : Nat) (h : Rdr w0 w g false bs) (hB : Below w0.heap.size w0 w) (hn : n ≤ bs.length) :
    Calls Try.prog 122 #[.pointer (some ⟨g, 0, none⟩), .int .i64 n] w fun e w' => ∃ v, e = .returned v ∧ Ob w' w.heap.size v (bs.take n) ∧ Left w0 w w' g (some (bs.drop n)) := by
  have HI := Aside0.mk h
  have HB := Aside0.mk hB
  clear hB
  obtain ⟨hg0, A, c, h1, h2, h3, h4⟩ := h
  have hnn : (0 : Int) ≤ (n : Int) := Int.natCast_nonneg _
  have hnc : (n : Int) ≤ (c : Int) := by omega
  have hd0 : decide ((n : Int) < 0) = false := decide_eq_false (by omega)
  have hd1 : decide ((bs.length : Int) < (n : Int)) = false := decide_eq_false (by omega)
  have hd2 : decide (bs.length < n) = false := decide_eq_false (by omega)
  have hc0 : w.cell? ⟨g, 0, none⟩ = some (.slice A bs.length c) := (blk_cell h1 0).trans rfl
  have hc1 : w.cell? ⟨g, 1, none⟩ = some (.bool false) := (blk_cell h1 1).trans rfl
  have hf0 := blk_frozen h1 0
  have HGL := Aside0.mk (blk_lt h1)
  have h3' := Kd.reads_of_C (d := (0 : Int)) h3
  have hlen : bs.length ≤ 9223372036854775807 := h3'.2.1
  obtain ⟨i0, hi, hz0, hz1, hz2⟩ := info_parts info_u8
  obtain ⟨A', hcut, hA', hbk⟩ := cut2 (P := Try.prog) 27 5 .i64 Try.underlying27 hi hz1 A bs.length c n hn
  have hrest : Rb w A' (bs.drop n) := by
    have := Kd.C_of_reads (d := (0 : Int)) (h1 := fun _ => rfl) (hA' w .u8 bs h2 h3')
    rwa [← List.length_drop] at this
  have hfirst : Rb w A (bs.take n) := by
    have h5 := Kd.C_of_reads (d := (0 : Int)) (h1 := fun _ => rfl) (ReadsInt.take_ h3' n hn)
    show Kd.C _ w A (bs.take n).length (bs.take n)
    rw [show (bs.take n).length = n from by rw [List.length_take]; omega]
    exact h5
  have HREST := Aside0.mk hrest
  have HFIRST := Aside0.mk hfirst
  have HU := Aside0.mk (h4.2.1.drop n)
  have HBK := Aside0.mk (show ∀ ad, A' = some ad → ad.block < g from fun ad' e => by obtain ⟨ad, e2, e3⟩ := hbk ad' e; rw [e3]; exact h4.2.2 ad e2)
  have HTL := Aside0.mk (show (bs.take n).length = n by rw [List.length_take]; omega)
  have HBL := Aside0.mk (show n < 140737488355328 by have := h4.1; omega)
  have HNC := Aside0.mk (show n ≤ c by omega)
  have HDL := Aside0.mk (show (bs.drop n).length ≤ c - n ∧ (bs.drop n).length ≤ bs.length by rw [List.length_drop]; omega)
  clear hrest hfirst h1 h3 h4 hA' hbk h3' hi hz0 hz1 hz2 hg0
  go_enter Try.func122, Try.ntmps122
  go_wp2_with (go_at_call 93; refine (copy_n A c n (bs.take n) _ HFIRST.out HTL.out HNC.out HBL.out).mono ?_; rintro e w1 ⟨v, rfl, ho, hb⟩; have HO := Aside0.mk ho; have HW := Aside0.mk hb; have hd0' := (hb.cell (p := ⟨g, 0, none⟩) HGL.out).trans hc0; have hf0' := (hb.frozen (p := ⟨g, 0, none⟩) HGL.out).trans hf0; clear ho hb hc0 hc1 hf0)
  go_ret
  have hR := ((HI.out.below HW.out).cut HDL.out.1 (Kd.C_below HREST.out HW.out) HDL.out.2 HU.out HBK.out)
  rw [List.length_drop] at hR
  refine ⟨_, rfl, Kd.R_mono (Kd.R_far (Kd.R_bound HO.out) (p := ⟨g, 0, none⟩) (fun k hk e => ?_) _) (fun _ _ => trivial), hR, below_set (HB.out.trans (HW.out.mono HB.out.size)) HI.out.1, (KeepBut.of_below HW.out g none).set_ 0 _⟩
  have h1 := hk.2.1
  have h2 := HGL.out
  dsimp only at e
  omega

theorem takeO_ (w0 w : World) (g : Nat) (st : Option (List Int)) (n : Int) (h : RfO w0 w g st) (hB : Below w0.heap.size w0 w) :
    Calls Try.prog 122 #[.pointer (some ⟨g, 0, none⟩), .int .i64 n] w fun e w' => ∃ v, e = .returned v ∧ Ob w' w.heap.size v (takeO st n).1 ∧ Left w0 w w' g (takeO st n).2 := by
  cases st with
  | some bs =>
    by_cases hn : 0 ≤ n ∧ n ≤ bs.length
    · obtain ⟨m, rfl⟩ := Int.eq_ofNat_of_zero_le hn.1
      have e : takeO (some bs) (m : Int) = (bs.take m, some (bs.drop m)) := by simp only [takeO]; rw [if_pos hn]; rfl
      rw [e]
      exact take_good w0 w g bs m h hB (by omega)
    · have e : takeO (some bs) n = ([], none) := by simp only [takeO]; rw [if_neg hn]
      rw [e]
      exact take_bad w0 w g false bs n h hB (fun h => hn h.2)
  | none =>
    obtain ⟨bs, h⟩ := h
    exact take_bad w0 w g true bs n h hB (fun h => by cases h.1)
theorem take1_cons (x : Int) (r : List Int) : takeO (some (x :: r)) 1 = ([x], some r) := by
  simp only [takeO]
  rw [if_pos (by rw [List.length_cons]; omega)]
  rfl

set_option maxHeartbeats 1600000 in
set_option maxRecDepth 100000 in
theorem num_none (w0 w : World) (g : Nat) (st : Option (List Int)) (h : RfO w0 w g st) (hB : Below w0.heap.size w0 w) (hst : takeO st 1 = ([], none)) :
    Calls Try.prog 123 #[.pointer (some ⟨g, 0, none⟩)] w fun e w' => e = .returned (.int .u64 0) ∧ Left w0 w w' g none := by
  have HS := Aside0.mk h
  have HB := Aside0.mk hB
  have E1 := Aside0.mk hst
  clear h hB hst
  go_enter Try.func123, Try.ntmps123
  go_wp2_with (first
    | (go_at_call 122; refine (takeO_ _ _ _ _ _ HS.out HB.out).mono ?_; rintro e w1 ⟨v, rfl, ho, hl⟩; rw [E1.out] at ho hl; have HL := Aside0.mk hl; have hc1 : w1.cell? ⟨g, 1, none⟩ = some (.bool true) := hl.1.fail.1; have hf1 := hl.1.fail.2; clear ho hl))
  go_ret
  exact ⟨rfl, HL.out.set⟩

set_option maxHeartbeats 1600000 in
set_option maxRecDepth 100000 in
theorem num_wide (w0 w : World) (g : Nat) (x : Int) (r : List Int) (h : RfO w0 w g (some (x :: r))) (hB : Below w0.heap.size w0 w) (hx : 8 < x) :
    Calls Try.prog 123 #[.pointer (some ⟨g, 0, none⟩)] w fun e w' => e = .returned (.int .u64 0) ∧ Left w0 w w' g none := by
  have HS := Aside0.mk h
  have HB := Aside0.mk hB
  have E1 := Aside0.mk (take1_cons x r)
  have hd : decide (8 < x) = true := decide_eq_true hx
  clear h hB hx
  go_enter Try.func123, Try.ntmps123
  go_wp2_with (first
    | (go_at_call 122; refine (takeO_ _ _ _ _ _ HS.out HB.out).mono ?_; rintro e w1 ⟨v, rfl, ho, hl⟩; rw [E1.out] at ho hl; have HL := Aside0.mk hl; have hc1 : w1.cell? ⟨g, 1, none⟩ = some (.bool false) := hl.1.fail.1; have hf1 := hl.1.fail.2; obtain ⟨A, c, rfl, hlc, hrd⟩ := Ob.reads ho; obtain ⟨ad, rfl, hc0⟩ := Rb.at0 hrd; clear ho hl hrd hlc))
  go_ret
  exact ⟨rfl, HL.out.set⟩

set_option maxHeartbeats 1600000 in
set_option maxRecDepth 100000 in
theorem num_short (w0 w : World) (g : Nat) (x : Int) (r : List Int) (h : RfO w0 w g (some (x :: r))) (hB : Below w0.heap.size w0 w) (hx0 : 0 ≤ x) (hx : x ≤ 8) (hl : (r.length : Int) < x) :
    Calls Try.prog 123 #[.pointer (some ⟨g, 0, none⟩)] w fun e w' => e = .returned (.int .u64 0) ∧ Left w0 w w' g none := by
  have HS := Aside0.mk h
  have HB := Aside0.mk hB
  have E1 := Aside0.mk (take1_cons x r)
  have E2 := Aside0.mk (show takeO (some r) x = ([], none) by simp only [takeO]; rw [if_neg (by omega)])
  have hd : decide (8 < x) = false := decide_eq_false (by omega)
  clear h hB hl
  go_enter Try.func123, Try.ntmps123
  go_wp2_with (fail)
  refine (takeO_ _ _ _ _ _ HS.out HB.out).mono ?_; rintro e w1 ⟨v, rfl, ho, hl⟩; rw [E1.out] at ho hl; have HL := Aside0.mk hl; have hc1 : w1.cell? ⟨g, 1, none⟩ = some (.bool false) := hl.1.fail.1; obtain ⟨A, c, rfl, hlc, hrd⟩ := Ob.reads ho; obtain ⟨ad, rfl, hc0⟩ := Rb.at0 hrd; clear ho hl hrd hlc
  go_wp2_with (fail)
  refine (takeO_ _ _ _ _ _ HL.out.1 HL.out.2.1).mono ?_; rintro e w2 ⟨v, rfl, ho, hl⟩; rw [E2.out] at ho hl; have HL2 := Aside0.mk (HL.out.trans hl); have hc2 : w2.cell? ⟨g, 1, none⟩ = some (.bool true) := hl.1.fail.1; have hf2 := hl.1.fail.2; clear HL ho hl hc1 hc0
  go_wp2
  go_ret
  exact ⟨rfl, HL2.out.set⟩

set_option maxHeartbeats 1600000 in
set_option maxRecDepth 100000 in
theorem num_zero (w0 w : World) (g : Nat) (x y : Int) (r : List Int) (h : RfO w0 w g (some (x :: y :: r))) (hB : Below w0.heap.size w0 w) (hx0 : 0 < x) (hx : x ≤ 8) (hl : x ≤ (r.length : Int) + 1) (hy : y = 0) :
    Calls Try.prog 123 #[.pointer (some ⟨g, 0, none⟩)] w fun e w' => e = .returned (.int .u64 0) ∧ Left w0 w w' g none := by
  subst hy
  have HS := Aside0.mk h
  have HB := Aside0.mk hB
  have E1 := Aside0.mk (take1_cons x (0 :: r))
  have E2 := Aside0.mk (show takeO (some (0 :: r)) x = (0 :: r.take (x.toNat - 1), some ((0 :: r).drop x.toNat)) by
    simp only [takeO]
    rw [if_pos (by rw [List.length_cons]; omega)]
    obtain ⟨m, hm⟩ : ∃ m, x.toNat = m + 1 := ⟨x.toNat - 1, by omega⟩
    rw [hm]; rfl)
  have hd : decide (8 < x) = false := decide_eq_false (by omega)
  clear h hB hl
  go_enter Try.func123, Try.ntmps123
  go_wp2_with (fail)
  refine (takeO_ _ _ _ _ _ HS.out HB.out).mono ?_; rintro e w1 ⟨v, rfl, ho, hl⟩; rw [E1.out] at ho hl; have HL := Aside0.mk hl; have hc1 : w1.cell? ⟨g, 1, none⟩ = some (.bool false) := hl.1.fail.1; obtain ⟨A, c, rfl, hlc, hrd⟩ := Ob.reads ho; obtain ⟨ad, rfl, hc0⟩ := Rb.at0 hrd; clear ho hl hrd hlc
  go_wp2_with (fail)
  refine (takeO_ _ _ _ _ _ HL.out.1 HL.out.2.1).mono ?_; rintro e w2 ⟨v, rfl, ho, hl⟩; rw [E2.out] at ho hl; have HL2 := Aside0.mk (HL.out.trans hl); have hc3 : w2.cell? ⟨g, 1, none⟩ = some (.bool false) := hl.1.fail.1; have hf3 := hl.1.fail.2; obtain ⟨A2, c2, rfl, hlc, hrd⟩ := Ob.reads ho; obtain ⟨ad2, rfl, hc2⟩ := Rb.at0 hrd; clear HL ho hl hlc hrd hc1 hc0
  have hl0 : decide (0 < (0 :: r.take (x.toNat - 1)).length) = true := decide_eq_true (by simp)
  generalize (0 :: r.take (x.toNat - 1)).length = nn at hl0 ⊢
  have hl2 : 0 < nn := of_decide_eq_true hl0
  have hl1 : decide (0 < (nn : Int)) = true := decide_eq_true (by omega)
  go_wp2
  go_ret
  exact ⟨rfl, HL2.out.set⟩

set_option maxHeartbeats 3200000 in
set_option maxRecDepth 100000 in
theorem num_good (w0 w : World) (g : Nat) (x : Int) (r : List Int) (h : RfO w0 w g (some (x :: r))) (hB : Below w0.heap.size w0 w) (hx0 : 0 ≤ x) (hx : x ≤ 8) (hl : x ≤ (r.length : Int)) (hy : ¬ (0 < x ∧ r.getD 0 0 = 0)) :
    Calls Try.prog 123 #[.pointer (some ⟨g, 0, none⟩)] w fun e w' => e = .returned (.int .u64 (valueB (r.take x.toNat))) ∧ Left w0 w w' g (some (r.drop x.toNat)) := by
  have HS := Aside0.mk h
  have HB := Aside0.mk hB
  have HU := Aside0.mk ((h.u8.1.tail).take x.toNat)
  have E1 := Aside0.mk (take1_cons x r)
  have E2 := Aside0.mk (show takeO (some r) x = (r.take x.toNat, some (r.drop x.toNat)) by simp only [takeO]; rw [if_pos ⟨hx0, hl⟩])
  obtain ⟨l, hL⟩ : ∃ l, l = r.take x.toNat := ⟨_, rfl⟩
  have hlen : l.length = x.toNat := by rw [hL, List.length_take]; omega
  have hb : (decide (0 < l.length) && (rd l 0 == 0)) = false := by
    rw [Bool.and_eq_false_iff]
    by_cases h0 : 0 < x
    · right
      rw [beq_eq_false_iff_ne]
      intro e
      apply hy
      refine ⟨h0, ?_⟩
      rw [hL] at e
      obtain ⟨m, hm⟩ : ∃ m, x.toNat = m + 1 := ⟨x.toNat - 1, by omega⟩
      cases r with
      | nil => simp at hl; omega
      | cons y r => simpa [rd, hm] using e
    · left
      exact decide_eq_false (by omega)
  rw [← hL] at HU E2 ⊢
  have H8 := Aside0.mk (show l.length ≤ 8 by omega)
  have hd : decide (8 < x) = false := decide_eq_false (by omega)
  clear h hB hl hy hL hlen
  go_enter Try.func123, Try.ntmps123
  go_wp2_with (fail)
  refine (takeO_ _ _ _ _ _ HS.out HB.out).mono ?_; rintro e w1 ⟨v, rfl, ho, hl⟩; rw [E1.out] at ho hl; have HL := Aside0.mk hl; have hc1 : w1.cell? ⟨g, 1, none⟩ = some (.bool false) := hl.1.fail.1; obtain ⟨A, c, rfl, hlc, hrd⟩ := Ob.reads ho; obtain ⟨ad, rfl, hc0⟩ := Rb.at0 hrd; clear ho hl hrd hlc
  go_wp2_with (fail)
  refine (takeO_ _ _ _ _ _ HL.out.1 HL.out.2.1).mono ?_; rintro e w2 ⟨v, rfl, ho, hl⟩; rw [E2.out] at ho hl; have HL2 := Aside0.mk (HL.out.trans hl); have hc3 : w2.cell? ⟨g, 1, none⟩ = some (.bool false) := hl.1.fail.1; obtain ⟨A2, c2, rfl, hlc, hrd⟩ := Ob.reads ho; have HRD := Aside0.mk hrd; have HLC := Aside0.mk hlc; clear HL ho hl hlc hrd hx0 hc1 hc0
  by_cases hz : 0 < l.length
  · have hzi : (0 : Int) < (l.length : Int) := by omega
    obtain ⟨ad2, hA2, hc2⟩ := Kd.at_int HRD.out 0 (Int.le_refl _) hzi
    subst hA2
    have hz0 : decide (0 < l.length) = true := decide_eq_true hz
    have hz1 : decide (0 < (l.length : Int)) = true := decide_eq_true (by omega)
    have hb1 : (rd l 0 == 0) = false := by rw [hz0, Bool.true_and] at hb; exact hb
    have hc5 : w2.cell? ad2 = some (.int .u8 (rd l 0)) := by simpa [Addr.add] using hc2
    clear hb hc2
    go_wp2_with (go_at_call 124; refine (value_c _ c2 l _ HRD.out HLC.out HU.out H8.out).mono ?_; rintro e w' ⟨rfl, ⟨m1, rfl⟩⟩)
    go_ret
    exact ⟨rfl, HL2.out.1.below (Drawn0.mk ⟨m1, rfl⟩).below, pw_below_drewN HL2.out.2.1 m1, keep_drewN HL2.out.2.2 m1⟩
  · have hz0 : decide (0 < l.length) = false := decide_eq_false hz
    have hl0 : l = [] := List.length_eq_zero_iff.1 (by omega)
    subst hl0
    clear hb hz hz0
    have hf0 : decide ((0 : Int) < 0) = false := rfl
    go_wp2_with (go_at_call 124; refine (value_c A2 c2 [] _ HRD.out HLC.out HU.out H8.out).mono ?_; rintro e w' ⟨rfl, ⟨m1, rfl⟩⟩)
    go_ret
    exact ⟨rfl, HL2.out.1.below (Drawn0.mk ⟨m1, rfl⟩).below, pw_below_drewN HL2.out.2.1 m1, keep_drewN HL2.out.2.2 m1⟩

theorem numO_ (w0 w : World) (g : Nat) (st : Option (List Int)) (h : RfO w0 w g st) (hB : Below w0.heap.size w0 w) :
    Calls Try.prog 123 #[.pointer (some ⟨g, 0, none⟩)] w fun e w' => e = .returned (.int .u64 (numO st).1) ∧ Left w0 w w' g (numO st).2 := by
  match st, h with
  | none, h => exact num_none w0 w g none h hB rfl
  | some [], h => exact num_none w0 w g (some []) h hB rfl
  | some (x :: r), h =>
    have hx0 := h.u8.1.head.1
    simp only [numO]
    by_cases h1 : x > 8
    · rw [if_pos h1]; exact num_wide w0 w g x r h hB h1
    · rw [if_neg h1]
      by_cases h2 : (r.length : Int) < x
      · rw [if_pos h2]; exact num_short w0 w g x r h hB hx0 (by omega) h2
      · rw [if_neg h2]
        by_cases h3 : 0 < x ∧ r.getD 0 0 = 0
        · rw [if_pos h3]
          cases r with
          | nil => simp at h2; omega
          | cons y r => exact num_zero w0 w g x y r h hB h3.1 (by omega) (by simp at h2; omega) (by simpa using h3.2)
        · rw [if_neg h3]; exact num_good w0 w g x r h hB hx0 (by omega) (by omega) h3

set_option maxHeartbeats 1600000 in
set_option maxRecDepth 100000 in
theorem countO_ (w0 w : World) (g : Nat) (st : Option (List Int)) (most : Int) (h : RfO w0 w g st) (hB : Below w0.heap.size w0 w) (hm : most ≤ 9223372036854775807) :
    Calls Try.prog 95 #[.pointer (some ⟨g, 0, none⟩), .int .i64 most] w fun e w' => e = .returned (.int .i64 (countO st most).1) ∧ Left w0 w w' g (countO st most).2 := by
  have HS := Aside0.mk h
  have HB := Aside0.mk hB
  have hr := numO_range (st := st) (fun bs e => by subst e; exact h.u8.1)
  unfold countO
  obtain ⟨nv, hnv⟩ : ∃ nv, nv = (numO st).1 := ⟨_, rfl⟩
  rw [← hnv] at hr ⊢
  have HN := Aside0.mk hnv
  have HR := Aside0.mk hr
  have HM := Aside0.mk hm
  clear hm
  clear hr hnv h hB
  by_cases h1 : most < 0
  · rw [if_pos (Or.inl h1)]
    have hd : decide (most < 0) = true := decide_eq_true h1
    clear h1
    go_enter Try.func95, Try.ntmps95
    go_wp2_with (go_at_call 123; refine (numO_ _ _ _ _ HS.out HB.out).mono ?_; rintro e w1 ⟨rfl, hl⟩; rw [← HN.out]; have HL := Aside0.mk hl; obtain ⟨hc1, hf1⟩ := hl.1.fail; clear hl)
    go_ret
    exact ⟨rfl, HL.out.set⟩
  · have hd : decide (most < 0) = false := decide_eq_false h1
    have hw : IntKind.u64.wrap most = most := IntWalk.u64_in _ (by have := HM.out; omega)
    by_cases h2 : nv > most
    · rw [if_pos (Or.inr h2)]
      have hd2 : decide (most < nv) = true := decide_eq_true h2
      clear h1 h2
      go_enter Try.func95, Try.ntmps95
      go_wp2_with (go_at_call 123; refine (numO_ _ _ _ _ HS.out HB.out).mono ?_; rintro e w1 ⟨rfl, hl⟩; rw [← HN.out]; have HL := Aside0.mk hl; obtain ⟨hc1, hf1⟩ := hl.1.fail; clear hl)
      go_ret
      exact ⟨rfl, HL.out.set⟩
    · rw [if_neg (by omega)]
      have hd2 : decide (most < nv) = false := decide_eq_false h2
      have hv : wrap64 nv = nv := IntWalk.wrap64_in _ (by have := HM.out; have := HR.out; omega)
      clear h1 h2
      go_enter Try.func95, Try.ntmps95
      go_wp2_with (go_at_call 123; refine (numO_ _ _ _ _ HS.out HB.out).mono ?_; rintro e w1 ⟨rfl, hl⟩; rw [← HN.out]; have HL := Aside0.mk hl; clear hl)
      go_ret
      exact ⟨by rw [← HN.out, hv]; rfl, HL.out⟩

set_option maxHeartbeats 800000 in
theorem textO_ (w0 w : World) (g : Nat) (st : Option (List Int)) (most : Int) (h : RfO w0 w g st) (hB : Below w0.heap.size w0 w) (hm : most ≤ 9223372036854775807) :
    Calls Try.prog 94 #[.pointer (some ⟨g, 0, none⟩), .int .i64 most] w fun e w' => ∃ v, e = .returned v ∧ Ob w' w.heap.size v (textO st most).1 ∧ Left w0 w w' g (textO st most).2 := by
  have HS := Aside0.mk h
  have HB := Aside0.mk hB
  have HM := Aside0.mk hm
  clear hm h hB
  go_enter Try.func94, Try.ntmps94
  go_wp2_with (first
    | (go_at_call 95; refine (countO_ _ _ _ _ _ HS.out HB.out HM.out).mono ?_; rintro e w1 ⟨rfl, hl⟩; have HL := Aside0.mk hl; clear hl)
    | (go_at_call 122; refine (takeO_ _ _ _ _ _ HL.out.1 HL.out.2.1).mono ?_; rintro e w2 ⟨v, rfl, ho, hl⟩; have HO := Aside0.mk ho; have HT := Aside0.mk hl; clear hl ho))
  go_ret
  exact ⟨_, rfl, Kd.R_lower HO.out HL.out.2.2.1, HL.out.trans HT.out⟩
end Go.Proofs.Ytgdpabedlghiaaa.Rf
/- hanaperref20.Read walked: the next scope of the document's reader (printed by gen_scrread.py). -/
namespace Go.Proofs.Ytgdpabedlghiaaa.Scope
set_option linter.unusedVariables false
set_option linter.unusedSimpArgs false
open Go.RowKit Go.Proofs.Ytgdpabedlghiaaa.Base Go.Proofs.Ytgdpabedlghiaaa.TlvPlain Go.Proofs.Ytgdpabedlghiaaa.Lo Go.Proofs.Ytgdpabedlghiaaa.RdPlain Go.Proofs.Ytgdpabedlghiaaa.Aid Go.Proofs.Ytgdpabedlghiaaa.PZ Go.Proofs.YtgdpabedlghiaaaW.PrintWords Go.Proofs.YtgdpabedlghiaaaW.PrintLast Go.Proofs.YtgdpabedlghiaaaW.PrintMore
theorem readS_none (d : Nat) : readS d none = none := by
  cases d with
  | zero => rfl
  | succ d => rw [readS]; simp [takeO]
theorem readK_none (d N : Nat) (h : 0 < N) : readK (readS d) N none = none := by
  obtain ⟨n, rfl⟩ : ∃ n, N = n + 1 := ⟨N - 1, by omega⟩
  rw [readK, readS_none]
end Go.Proofs.Ytgdpabedlghiaaa.Scope
/- scope.Get walked: which scope bytes are. -/
namespace Go.Proofs.Ytgdpabedlghiaaa.Scope
set_option linter.unusedVariables false
set_option linter.unusedSimpArgs false
open Go.RowKit Go.Proofs.Ytgdpabedlghiaaa.Base Go.Proofs.Ytgdpabedlghiaaa.TlvPlain Go.Proofs.Ytgdpabedlghiaaa.Lo Go.Proofs.Ytgdpabedlghiaaa.RdPlain Go.Proofs.Ytgdpabedlghiaaa.Aid Go.Proofs.Ytgdpabedlghiaaa.PZ Go.Proofs.YtgdpabedlghiaaaW.PrintWords Go.Proofs.YtgdpabedlghiaaaW.PrintLast Go.Proofs.YtgdpabedlghiaaaW.PrintMore
open Tlv (RdO takeO_ okO leftO_ newO)
def GetQ (w : World) (b : List Int) (e : Ending) (w' : World) : Prop := ∃ v, e = .returned (.tuple #[.agg #[.int .i64 (getSc b).1.f0, .string (getSc b).1.f1, .int .i64 (getSc b).1.f2, .int .i64 (getSc b).1.f3, v], .int .i64 (getSc b).2]) ∧ Kd.R k40 40 w' w.heap.size (fun _ => True) v (getSc b).1.f4 ∧ Below w.heap.size w w'
theorem get_no {b : List Int} (h : readS 8 (some b) = none) : getSc b = (z40s, 2) := by unfold getSc; rw [h]
theorem get_left {b : List Int} {x : S40} {c : Int} {r : List Int} (h : readS 8 (some b) = some (x, c :: r)) : getSc b = (z40s, 2) := by unfold getSc; rw [h]
theorem get_bad {b : List Int} {x : S40} (h : readS 8 (some b) = some (x, [])) (hm : mayB x = false) : getSc b = (z40s, 2) := by unfold getSc; rw [h]; dsimp only; rw [if_neg (by rw [hm]; decide)]
theorem get_ok {b : List Int} {x : S40} (h : readS 8 (some b) = some (x, [])) (hm : mayB x = true) : getSc b = (x, 0) := by unfold getSc; rw [h]; dsimp only; rw [if_pos hm]
theorem below_set5 {w W : World} (h : Below w.heap.size w W) (a b c d e : Value) : Below w.heap.size w (((((W.setCell ⟨w.heap.size, 0, none⟩ a).setCell ⟨w.heap.size, 1, none⟩ b).setCell ⟨w.heap.size, 2, none⟩ c).setCell ⟨w.heap.size, 3, none⟩ d).setCell ⟨w.heap.size, 4, none⟩ e) :=
  below_set (below_set (below_set (below_set (below_set h (Nat.le_refl _)) (Nat.le_refl _)) (Nat.le_refl _)) (Nat.le_refl _)) (Nat.le_refl _)
theorem r_set5 {α : Type} {d : Kd α} {e : Nat} {W : World} {q base : Nat} {v : Value} {xs : List α} {ok : Nat → Prop} (h : Kd.R d e W base ok v xs) (hb : q < base) (a b c f k : Value) : Kd.R d e (((((W.setCell ⟨q, 0, none⟩ a).setCell ⟨q, 1, none⟩ b).setCell ⟨q, 2, none⟩ c).setCell ⟨q, 3, none⟩ f).setCell ⟨q, 4, none⟩ k) q ok v xs :=
  Kd.R_mono (Kd.R_lower (Kd.R_keep (Kd.R_bound h) ((((((KeepBut.refl W q none).set_ 0 a).set_ 1 b).set_ 2 c).set_ 3 f).set_ 4 k) (fun k hk => by have := hk.2.1; omega)) (by omega)) (fun _ h => h.1)
set_option maxHeartbeats 8000000 in
set_option maxRecDepth 100000 in
theorem get_c (w : World) (A : Option Addr) (c : Nat) (b : List Int) (hr : Rb w A b) (hc : b.length ≤ c) (hl : b.length < 140737488355328) (hu : U8 b) :
    Calls Try.prog 50 #[.slice A b.length c] w (GetQ w b) := by
  have HR := Aside0.mk hr
  have HC := Aside0.mk hc
  have HL := Aside0.mk hl
  have HU := Aside0.mk hu
  have HB := Aside0.mk (below_alloc (Below.refl w.heap.size w) (.cells #[.int .i64 0, .string ⟨#[]⟩, .int .i64 0, .int .i64 0, .slice none 0 0] 40))
  have H0 := Aside0.mk (show Blk (w.alloc (.cells #[.int .i64 0, .string ⟨#[]⟩, .int .i64 0, .int .i64 0, .slice none 0 0] 40)) w.heap.size 40 #[.int .i64 0, .string ⟨#[]⟩, .int .i64 0, .int .i64 0, .slice none 0 0] from blk_new _ _)
  have hu40 := Try.underlying40
  clear hr hl hu hc
  go_enter Try.func50, Try.ntmps50
  go_wp2_with (fail)
  refine (newO A c b _ (Kd.C_below HR.out HB.out) HC.out HL.out HU.out).mono ?_
  rintro e w1 ⟨g, rfl, hs, hb⟩
  have HS := Aside0.mk (RdO.lower hs HB.out.size)
  have HG := Aside0.mk (show w.heap.size + 1 ≤ g by have := hs.blk.1; simpa using this)
  have HB1 := Aside0.mk (below_step HB.out hb)
  have H1 := Aside0.mk (H0.out.below hb)
  clear hs hb HR
  have hc := read_c 8 (by decide) w w1 g (some b) HS.out HB1.out
  cases hr : readS 8 (some b) with
  | none =>
    rw [hr] at hc
    have HCC := Aside0.mk hc
    have HE := Aside0.mk (get_no hr)
    clear hc hr
    go_wp2_with (fail)
    refine HCC.out.mono ?_
    rintro e w' ⟨y0, y1, y2, y3, B3, m3, e3, s', rfl, hl'⟩
    have H0' := Aside0.mk (H1.out.keep hl'.2.2 (by have := HG.out; omega))
    have HB' := Aside0.mk hl'.2.1
    have z0 := fun o => (H0'.out.alloc o).cell 0
    have z1 := fun o => (H0'.out.alloc o).cell 1
    have z2 := fun o => (H0'.out.alloc o).cell 2
    have z3 := fun o => (H0'.out.alloc o).cell 3
    have z4 := fun o => (H0'.out.alloc o).cell 4
    have u0 := fun o => blk_frozen (H0'.out.alloc o) 0
    have u1 := fun o => blk_frozen (H0'.out.alloc o) 1
    have u2 := fun o => blk_frozen (H0'.out.alloc o) 2
    have u3 := fun o => blk_frozen (H0'.out.alloc o) 3
    have u4 := fun o => blk_frozen (H0'.out.alloc o) 4
    simp only [List.getElem?_toArray, List.getElem?_cons_zero, List.getElem?_cons_succ] at z0 z1 z2 z3 z4
    clear hl'
    go_wp2_with (fail)
    refine bodyPost_ret (results_ct rfl _ _ w.heap.size 40 #[.int .i64 0, .string ⟨#[]⟩, .int .i64 0, .int .i64 0, .slice none 0 0] (0, 0) _ rfl (set5 (H0'.out.alloc _) _ _ _ _ _) Try.underlying40 rfl (by kernel_rfl)) rfl ?_
    unfold GetQ
    rw [HE.out]
    exact ⟨_, rfl, Kd.R_nil _ _ _ _ _, below_set5 (below_alloc HB'.out _) _ _ _ _ _⟩
  | some p =>
    obtain ⟨x, r'⟩ := p
    cases r' with
    | cons c0 r0 =>
      rw [hr] at hc
      have HCC := Aside0.mk hc
      have HE := Aside0.mk (get_left hr)
      clear hc hr
      go_wp2_with (fail)
      refine HCC.out.mono ?_
      rintro e w' ⟨q3, rfl, ho3, hl'⟩
      obtain ⟨B3, e3, rfl, k3, r3⟩ := Kd.R_reads ho3
      have HT' := Aside0.mk (show Blk (w'.alloc (.cells #[.int .i64 x.f0, .string x.f1, .int .i64 x.f2, .int .i64 x.f3, .slice B3 x.f4.length e3] 40)) w'.heap.size 40 #[.int .i64 x.f0, .string x.f1, .int .i64 x.f2, .int .i64 x.f3, .slice B3 x.f4.length e3] from blk_new _ _)
      have HO3 := Aside0.mk (Kd.R_alloc ho3 (.cells #[.int .i64 x.f0, .string x.f1, .int .i64 x.f2, .int .i64 x.f3, .slice B3 x.f4.length e3] 40))
      have HS' := Aside0.mk (hl'.1.below (below_alloc (Below.refl _ _) (.cells #[.int .i64 x.f0, .string x.f1, .int .i64 x.f2, .int .i64 x.f3, .slice B3 x.f4.length e3] 40)))
      have H0' := Aside0.mk ((H1.out.keep hl'.2.2 (by have := HG.out; omega)).alloc (.cells #[.int .i64 x.f0, .string x.f1, .int .i64 x.f2, .int .i64 x.f3, .slice B3 x.f4.length e3] 40))
      have HB' := Aside0.mk (below_alloc hl'.2.1 (.cells #[.int .i64 x.f0, .string x.f1, .int .i64 x.f2, .int .i64 x.f3, .slice B3 x.f4.length e3] 40))
      have HCK := Aside0.mk (check_c x B3 e3 (w'.alloc (.cells #[.int .i64 x.f0, .string x.f1, .int .i64 x.f2, .int .i64 x.f3, .slice B3 x.f4.length e3] 40)) (Kd.C_alloc r3 _) k3)
      have HR3 := Aside0.mk (And.intro k3 (Kd.C_alloc r3 (.cells #[.int .i64 x.f0, .string x.f1, .int .i64 x.f2, .int .i64 x.f3, .slice B3 x.f4.length e3] 40)))
      have x0 := HT'.out.cell 0
      have x1 := HT'.out.cell 1
      have x2 := HT'.out.cell 2
      have x3 := HT'.out.cell 3
      have x4 := HT'.out.cell 4
      simp only [List.getElem?_toArray, List.getElem?_cons_zero, List.getElem?_cons_succ] at x0 x1 x2 x3 x4
      have z0 := H0'.out.cell 0
      have z1 := H0'.out.cell 1
      have z2 := H0'.out.cell 2
      have z3 := H0'.out.cell 3
      have z4 := H0'.out.cell 4
      simp only [List.getElem?_toArray, List.getElem?_cons_zero, List.getElem?_cons_succ] at z0 z1 z2 z3 z4
      have u0 := blk_frozen H0'.out 0
      have u1 := blk_frozen H0'.out 1
      have u2 := blk_frozen H0'.out 2
      have u3 := blk_frozen H0'.out 3
      have u4 := blk_frozen H0'.out 4
      clear hl' ho3 k3 r3
      go_wp2_with (fail)
      refine (leftO_ w _ g (some (c0 :: r0)) HS'.out).mono ?_
      rintro e w3 ⟨rfl, rfl⟩
      have p9 : (0 : Int) < leftO (some (c0 :: r0)) := by simp only [leftO, List.length_cons]; omega
      go_wp2_with (fail)
      refine bodyPost_ret (results_ct rfl _ _ w.heap.size 40 #[.int .i64 0, .string ⟨#[]⟩, .int .i64 0, .int .i64 0, .slice none 0 0] (0, 0) _ rfl (set5 H0'.out _ _ _ _ _) Try.underlying40 rfl (by kernel_rfl)) rfl ?_
      unfold GetQ
      rw [HE.out]
      exact ⟨_, rfl, Kd.R_nil _ _ _ _ _, below_set5 HB'.out _ _ _ _ _⟩
    | nil =>
      cases hm : mayB x with
      | false =>
        have HE := Aside0.mk (get_bad hr hm)
        have HM := Aside0.mk hm
        rw [hr] at hc
        have HCC := Aside0.mk hc
        clear hc hr hm
        go_wp2_with (fail)
        refine HCC.out.mono ?_
        rintro e w' ⟨q3, rfl, ho3, hl'⟩
        obtain ⟨B3, e3, rfl, k3, r3⟩ := Kd.R_reads ho3
        have HT' := Aside0.mk (show Blk (w'.alloc (.cells #[.int .i64 x.f0, .string x.f1, .int .i64 x.f2, .int .i64 x.f3, .slice B3 x.f4.length e3] 40)) w'.heap.size 40 #[.int .i64 x.f0, .string x.f1, .int .i64 x.f2, .int .i64 x.f3, .slice B3 x.f4.length e3] from blk_new _ _)
        have HO3 := Aside0.mk (Kd.R_alloc ho3 (.cells #[.int .i64 x.f0, .string x.f1, .int .i64 x.f2, .int .i64 x.f3, .slice B3 x.f4.length e3] 40))
        have HS' := Aside0.mk (hl'.1.below (below_alloc (Below.refl _ _) (.cells #[.int .i64 x.f0, .string x.f1, .int .i64 x.f2, .int .i64 x.f3, .slice B3 x.f4.length e3] 40)))
        have H0' := Aside0.mk ((H1.out.keep hl'.2.2 (by have := HG.out; omega)).alloc (.cells #[.int .i64 x.f0, .string x.f1, .int .i64 x.f2, .int .i64 x.f3, .slice B3 x.f4.length e3] 40))
        have HB' := Aside0.mk (below_alloc hl'.2.1 (.cells #[.int .i64 x.f0, .string x.f1, .int .i64 x.f2, .int .i64 x.f3, .slice B3 x.f4.length e3] 40))
        have HCK := Aside0.mk (check_c x B3 e3 (w'.alloc (.cells #[.int .i64 x.f0, .string x.f1, .int .i64 x.f2, .int .i64 x.f3, .slice B3 x.f4.length e3] 40)) (Kd.C_alloc r3 _) k3)
        have HR3 := Aside0.mk (And.intro k3 (Kd.C_alloc r3 (.cells #[.int .i64 x.f0, .string x.f1, .int .i64 x.f2, .int .i64 x.f3, .slice B3 x.f4.length e3] 40)))
        have x0 := HT'.out.cell 0
        have x1 := HT'.out.cell 1
        have x2 := HT'.out.cell 2
        have x3 := HT'.out.cell 3
        have x4 := HT'.out.cell 4
        simp only [List.getElem?_toArray, List.getElem?_cons_zero, List.getElem?_cons_succ] at x0 x1 x2 x3 x4
        have z0 := H0'.out.cell 0
        have z1 := H0'.out.cell 1
        have z2 := H0'.out.cell 2
        have z3 := H0'.out.cell 3
        have z4 := H0'.out.cell 4
        simp only [List.getElem?_toArray, List.getElem?_cons_zero, List.getElem?_cons_succ] at z0 z1 z2 z3 z4
        have u0 := blk_frozen H0'.out 0
        have u1 := blk_frozen H0'.out 1
        have u2 := blk_frozen H0'.out 2
        have u3 := blk_frozen H0'.out 3
        have u4 := blk_frozen H0'.out 4
        clear hl' ho3 k3 r3
        go_wp2_with (fail)
        refine (leftO_ w _ g (some []) HS'.out).mono ?_
        rintro e w3 ⟨rfl, rfl⟩
        have p9 : leftO (some []) = 0 := rfl
        rw [p9]
        go_wp2_with (fail)
        refine HCK.out.mono ?_
        rw [HM.out, if_neg (by decide)]
        rintro e w2 ⟨rfl, hb⟩
        have H0'' := Aside0.mk (H0'.out.below hb)
        have HT'' := Aside0.mk (HT'.out.below hb)
        have HO3' := Aside0.mk (Kd.R_below HO3.out hb)
        have HB'' := Aside0.mk (below_step HB'.out hb)
        clear hb x0 x1 x2 x3 x4 z0 z1 z2 z3 z4 u0 u1 u2 u3 u4
        have x0 := HT''.out.cell 0
        have x1 := HT''.out.cell 1
        have x2 := HT''.out.cell 2
        have x3 := HT''.out.cell 3
        have x4 := HT''.out.cell 4
        simp only [List.getElem?_toArray, List.getElem?_cons_zero, List.getElem?_cons_succ] at x0 x1 x2 x3 x4
        have z0 := H0''.out.cell 0
        have z1 := H0''.out.cell 1
        have z2 := H0''.out.cell 2
        have z3 := H0''.out.cell 3
        have z4 := H0''.out.cell 4
        simp only [List.getElem?_toArray, List.getElem?_cons_zero, List.getElem?_cons_succ] at z0 z1 z2 z3 z4
        have u0 := blk_frozen H0''.out 0
        have u1 := blk_frozen H0''.out 1
        have u2 := blk_frozen H0''.out 2
        have u3 := blk_frozen H0''.out 3
        have u4 := blk_frozen H0''.out 4
        go_wp2_with (fail)
        refine bodyPost_ret (results_ct rfl _ _ w.heap.size 40 #[.int .i64 0, .string ⟨#[]⟩, .int .i64 0, .int .i64 0, .slice none 0 0] (0, 0) _ rfl (set5 H0''.out _ _ _ _ _) Try.underlying40 rfl (by kernel_rfl)) rfl ?_
        unfold GetQ
        rw [HE.out]
        exact ⟨_, rfl, Kd.R_nil _ _ _ _ _, below_set5 HB''.out _ _ _ _ _⟩
      | true =>
        have HE := Aside0.mk (get_ok hr hm)
        have HM := Aside0.mk hm
        rw [hr] at hc
        have HCC := Aside0.mk hc
        clear hc hr hm
        go_wp2_with (fail)
        refine HCC.out.mono ?_
        rintro e w' ⟨q3, rfl, ho3, hl'⟩
        obtain ⟨B3, e3, rfl, k3, r3⟩ := Kd.R_reads ho3
        have HT' := Aside0.mk (show Blk (w'.alloc (.cells #[.int .i64 x.f0, .string x.f1, .int .i64 x.f2, .int .i64 x.f3, .slice B3 x.f4.length e3] 40)) w'.heap.size 40 #[.int .i64 x.f0, .string x.f1, .int .i64 x.f2, .int .i64 x.f3, .slice B3 x.f4.length e3] from blk_new _ _)
        have HO3 := Aside0.mk (Kd.R_alloc ho3 (.cells #[.int .i64 x.f0, .string x.f1, .int .i64 x.f2, .int .i64 x.f3, .slice B3 x.f4.length e3] 40))
        have HS' := Aside0.mk (hl'.1.below (below_alloc (Below.refl _ _) (.cells #[.int .i64 x.f0, .string x.f1, .int .i64 x.f2, .int .i64 x.f3, .slice B3 x.f4.length e3] 40)))
        have H0' := Aside0.mk ((H1.out.keep hl'.2.2 (by have := HG.out; omega)).alloc (.cells #[.int .i64 x.f0, .string x.f1, .int .i64 x.f2, .int .i64 x.f3, .slice B3 x.f4.length e3] 40))
        have HB' := Aside0.mk (below_alloc hl'.2.1 (.cells #[.int .i64 x.f0, .string x.f1, .int .i64 x.f2, .int .i64 x.f3, .slice B3 x.f4.length e3] 40))
        have HCK := Aside0.mk (check_c x B3 e3 (w'.alloc (.cells #[.int .i64 x.f0, .string x.f1, .int .i64 x.f2, .int .i64 x.f3, .slice B3 x.f4.length e3] 40)) (Kd.C_alloc r3 _) k3)
        have HR3 := Aside0.mk (And.intro k3 (Kd.C_alloc r3 (.cells #[.int .i64 x.f0, .string x.f1, .int .i64 x.f2, .int .i64 x.f3, .slice B3 x.f4.length e3] 40)))
        have x0 := HT'.out.cell 0
        have x1 := HT'.out.cell 1
        have x2 := HT'.out.cell 2
        have x3 := HT'.out.cell 3
        have x4 := HT'.out.cell 4
        simp only [List.getElem?_toArray, List.getElem?_cons_zero, List.getElem?_cons_succ] at x0 x1 x2 x3 x4
        have z0 := H0'.out.cell 0
        have z1 := H0'.out.cell 1
        have z2 := H0'.out.cell 2
        have z3 := H0'.out.cell 3
        have z4 := H0'.out.cell 4
        simp only [List.getElem?_toArray, List.getElem?_cons_zero, List.getElem?_cons_succ] at z0 z1 z2 z3 z4
        have u0 := blk_frozen H0'.out 0
        have u1 := blk_frozen H0'.out 1
        have u2 := blk_frozen H0'.out 2
        have u3 := blk_frozen H0'.out 3
        have u4 := blk_frozen H0'.out 4
        clear hl' ho3 k3 r3
        go_wp2_with (fail)
        refine (leftO_ w _ g (some []) HS'.out).mono ?_
        rintro e w3 ⟨rfl, rfl⟩
        have p9 : leftO (some []) = 0 := rfl
        rw [p9]
        go_wp2_with (fail)
        refine HCK.out.mono ?_
        rw [HM.out, if_pos rfl]
        rintro e w2 ⟨rfl, hb⟩
        have H0'' := Aside0.mk (H0'.out.below hb)
        have HT'' := Aside0.mk (HT'.out.below hb)
        have HO3' := Aside0.mk (Kd.R_below HO3.out hb)
        have HB'' := Aside0.mk (below_step HB'.out hb)
        clear hb x0 x1 x2 x3 x4 z0 z1 z2 z3 z4 u0 u1 u2 u3 u4
        have x0 := HT''.out.cell 0
        have x1 := HT''.out.cell 1
        have x2 := HT''.out.cell 2
        have x3 := HT''.out.cell 3
        have x4 := HT''.out.cell 4
        simp only [List.getElem?_toArray, List.getElem?_cons_zero, List.getElem?_cons_succ] at x0 x1 x2 x3 x4
        have z0 := H0''.out.cell 0
        have z1 := H0''.out.cell 1
        have z2 := H0''.out.cell 2
        have z3 := H0''.out.cell 3
        have z4 := H0''.out.cell 4
        simp only [List.getElem?_toArray, List.getElem?_cons_zero, List.getElem?_cons_succ] at z0 z1 z2 z3 z4
        have u0 := blk_frozen H0''.out 0
        have u1 := blk_frozen H0''.out 1
        have u2 := blk_frozen H0''.out 2
        have u3 := blk_frozen H0''.out 3
        have u4 := blk_frozen H0''.out 4
        go_wp2_with (fail)
        refine bodyPost_ret (results_ct rfl _ _ w.heap.size 40 #[.int .i64 x.f0, .string x.f1, .int .i64 x.f2, .int .i64 x.f3, .slice B3 x.f4.length e3] (0, 0) _ rfl (set5 H0''.out _ _ _ _ _) Try.underlying40 rfl (by kernel_rfl)) rfl ?_
        unfold GetQ
        rw [HE.out]
        exact ⟨_, rfl, r_set5 (q := w.heap.size) HO3'.out (by have := HB1.out.size; have := HG.out; have := HS.out.blk.2.1; omega) _ _ _ _ _, below_set5 HB''.out _ _ _ _ _⟩
end Go.Proofs.Ytgdpabedlghiaaa.Scope
/- What is read is short, and no more nodes than bytes. -/
namespace Go.Proofs.Ytgdpabedlghiaaa.Scope
set_option linter.unusedVariables false
set_option linter.unusedSimpArgs false
open Go.RowKit Go.Proofs.Ytgdpabedlghiaaa.Base Go.Proofs.Ytgdpabedlghiaaa.TlvPlain Go.Proofs.Ytgdpabedlghiaaa.Lo Go.Proofs.Ytgdpabedlghiaaa.RdPlain Go.Proofs.YtgdpabedlghiaaaW.PrintWords Go.Proofs.Ytgdpabedlghiaaa.PZ Go.Proofs.Ytgdpabedlghiaaa.Aid
theorem str_size (l : List Int) : (strOfNums l).size = l.length := by
  have h := strOfNums_data l
  have : (strOfNums l).size = (strOfNums l).data.size := rfl
  rw [this, ← Array.length_toList, h, List.length_map]
theorem takeO_le (st : Option (List Int)) (n : Int) (h : 0 ≤ n) : ((takeO st n).1.length : Int) ≤ n := by
  unfold takeO
  split
  · split
    · rw [List.length_take]; omega
    · simpa using h
  · simpa using h
theorem text_le (st : Option (List Int)) (hu : ∀ bs, st = some bs → U8 bs) (m : Int) (hm : 0 ≤ m) : ((textO st m).1.length : Int) ≤ m := by
  unfold textO
  by_cases h : m < 0 ∨ (numO st).1 > m
  · have : countO st m = (0, none) := by unfold countO; rw [if_pos h]
    rw [this]
    have := takeO_le none 0 (Int.le_refl _)
    show ((takeO none 0).1.length : Int) ≤ m
    omega
  · have : countO st m = numO st := by unfold countO; rw [if_neg h]
    rw [this]
    have := takeO_le (numO st).2 (numO st).1 (numO_range hu).1
    omega
theorem head_short (op : Int) (st : Option (List Int)) (hu : ∀ bs, st = some bs → U8 bs) : (headR op st).1.1.size ≤ 100 := by
  unfold headR
  split
  · show (strOfNums (textO st 16).1).size ≤ 100
    rw [str_size]
    have := text_le st hu 16 (by decide)
    omega
  · split
    · exact Nat.zero_le _
    · split <;> exact Nat.zero_le _
theorem readK_all {f : Option (List Int) → Option (S40 × List Int)} {p : S40 → Prop} (hp : ∀ b x r, U8 b → f (some b) = some (x, r) → p x ∧ U8 r) (hf : f none = none) : ∀ (n : Nat) (st : Option (List Int)) (ks : List S40) (s : List Int), (∀ bs, st = some bs → U8 bs) → readK f n st = some (ks, some s) → ∀ k ∈ ks, p k
  | 0, st, ks, s, hu, h => by
    rw [readK] at h
    simp only [Option.some.injEq, Prod.mk.injEq] at h
    intro k hk
    rw [← h.1] at hk
    cases hk
  | n + 1, st, ks, s, hu, h => by
    rw [readK] at h
    cases st with
    | none => rw [hf] at h; cases h
    | some b =>
      cases hr : f (some b) with
      | none => rw [hr] at h; cases h
      | some q =>
        obtain ⟨x, r⟩ := q
        rw [hr] at h
        dsimp only at h
        obtain ⟨h1, h2⟩ := hp b x r (hu b rfl) hr
        cases hk : readK f n (some r) with
        | none => rw [hk] at h; cases h
        | some q =>
          obtain ⟨l, s'⟩ := q
          rw [hk] at h
          simp only [Option.some.injEq, Prod.mk.injEq] at h
          obtain ⟨rfl, rfl⟩ := h
          intro k hkm
          rcases List.mem_cons.1 hkm with rfl | hkm
          · exact h1
          · exact readK_all hp hf n (some r) l s (fun bs e => by cases e; exact h2) hk k hkm
theorem shortL_of : ∀ ks : List S40, (∀ k ∈ ks, short k) → shortL ks
  | [], _ => by rw [shortL]; trivial
  | k :: ks, h => by rw [shortL]; exact ⟨h k List.mem_cons_self, shortL_of ks (fun x hx => h x (List.mem_cons_of_mem _ hx))⟩
theorem read_short : ∀ (d : Nat) (b : List Int) (x : S40) (r : List Int), U8 b → readS d (some b) = some (x, r) → short x ∧ U8 r := by
  intro d
  induction d with
  | zero => intro b x r _ h; cases h
  | succ d ih =>
    intro b x r hu h
    have hb := read_back (d + 1) b x r hu h
    refine ⟨?_, hb.2⟩
    rw [readS] at h
    cases b with
    | nil => simp [takeO] at h
    | cons c b =>
      have t : takeO (some (c :: b)) 1 = ([c], some b) := by
        simp only [takeO]
        rw [if_pos (by rw [List.length_cons]; omega)]
        rfl
      rw [t] at h
      simp only [List.getD_cons_zero] at h
      have hh := head_short c (some b) (fun bs e => by cases e; exact hu.tail)
      obtain ⟨q, hq⟩ : ∃ q, headR c (some b) = q := ⟨_, rfl⟩
      obtain ⟨⟨nm, fr, to_, n⟩, s⟩ := q
      rw [hq] at h hh
      dsimp only at h hh
      have hs : ∀ bs, s = some bs → U8 bs := fun bs e => by
        subst e
        exact (head_back hu.tail hq).1
      cases hk : readK (readS d) n.toNat s with
      | none => rw [hk] at h; cases h
      | some q =>
        obtain ⟨ks, s2⟩ := q
        rw [hk] at h
        cases s2 with
        | none => cases h
        | some s2 =>
          simp only [Option.some.injEq, Prod.mk.injEq] at h
          obtain ⟨rfl, rfl⟩ := h
          rw [short]
          exact ⟨hh, shortL_of ks (readK_all (p := short) (fun b x r hu hr => ih b x r hu hr) (by cases d with | zero => rfl | succ d => rw [readS]; simp [takeO]) _ s ks s2 hs hk)⟩
end Go.Proofs.Ytgdpabedlghiaaa.Scope
/- hanaperref20.Get walked: which scope bytes are. -/
namespace Go.Proofs.Ytgdpabedlghiaaa.Scope
set_option linter.unusedVariables false
set_option linter.unusedSimpArgs false
open Go.RowKit Go.Proofs.Ytgdpabedlghiaaa.Base Go.Proofs.Ytgdpabedlghiaaa.TlvPlain Go.Proofs.Ytgdpabedlghiaaa.Lo Go.Proofs.Ytgdpabedlghiaaa.RdPlain Go.Proofs.Ytgdpabedlghiaaa.Aid Go.Proofs.Ytgdpabedlghiaaa.PZ Go.Proofs.YtgdpabedlghiaaaW.PrintWords Go.Proofs.YtgdpabedlghiaaaW.PrintLast Go.Proofs.YtgdpabedlghiaaaW.PrintMore
end Go.Proofs.Ytgdpabedlghiaaa.Scope
-- printed for this claim by a program (pall.sh)
-- mended by fixpz.py
namespace Go.Proofs.Ytgdpabedlghiaaa.PZ
open Go.RowKit Go.Proofs.YtgdpabedlghiaaaW.PrintWords Go.Proofs.YtgdpabedlghiaaaW.PrintLast Go.Proofs.YtgdpabedlghiaaaW.PrintMore
attribute [local go_sem] max2_int min2_int max_two min_two max_three min_three max_four min_four   -- for this text's walks alone
set_option linter.unusedVariables false
set_option linter.unusedSimpArgs false

end Go.Proofs.Ytgdpabedlghiaaa.PZ
