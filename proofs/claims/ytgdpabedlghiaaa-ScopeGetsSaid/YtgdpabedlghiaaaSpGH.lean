/- Own and printed texts, laid together. -/
import Derived.Test.YtgdpabedlghiaaaSpGG
import Derived.Test.YtgdpabedlghiaaaSpGC
import Derived.Test.YtgdpabedlghiaaaSpGB
import Derived.Test.YtgdpabedlghiaaaSpGE
import Derived.ProofKit
import Derived.Deep.Slices
/- scope.Same walked: whether two scopes are the same (printed by gen_scsame.py). -/
namespace Go.Proofs.Ytgdpabedlghiaaa.Scope
set_option linter.unusedVariables false
set_option linter.unusedSimpArgs false
open Go.RowKit Go.Proofs.Ytgdpabedlghiaaa.Base Go.Proofs.Ytgdpabedlghiaaa.TlvPlain Go.Proofs.Ytgdpabedlghiaaa.Lo Go.Proofs.Ytgdpabedlghiaaa.RdPlain Go.Proofs.Ytgdpabedlghiaaa.Aid Go.Proofs.Ytgdpabedlghiaaa.PZ Go.Proofs.YtgdpabedlghiaaaW.PrintWords Go.Proofs.YtgdpabedlghiaaaW.PrintLast Go.Proofs.YtgdpabedlghiaaaW.PrintMore
mutual
def eqS : S40 → S40 → Bool
 | ⟨a, b, c, d, ks⟩, ⟨a2, b2, c2, d2, ks2⟩ => (decide (a = a2) && decide (b.toList = b2.toList)) && ((decide (c = c2) && decide (d = d2)) && eqSs ks ks2)
def eqSs : List S40 → List S40 → Bool
 | [], [] => true
 | x :: xs, y :: ys => eqS x y && eqSs xs ys
 | _, _ => false
end
theorem list_inj {a b : ByteArray} : a.toList = b.toList ↔ a = b := by
 refine ⟨fun h => ?_, fun h => by rw [h]⟩
 rw [ByteArray.toList_eq, ByteArray.toList_eq] at h
 exact ByteArray.ext (Array.toList_inj.1 h)
mutual
theorem eqS_iff : ∀ x y : S40, eqS x y = true ↔ x = y
 | ⟨a, b, c, d, ks⟩, ⟨a2, b2, c2, d2, ks2⟩ => by
  rw [eqS]
  simp only [Bool.and_eq_true, decide_eq_true_eq, S40.mk.injEq]
  rw [eqSs_iff ks ks2, list_inj, and_assoc, and_assoc]
theorem eqSs_iff : ∀ l m : List S40, eqSs l m = true ↔ l = m
 | [], [] => by rw [eqSs]; simp
 | [], y :: ys => by rw [eqSs] <;> simp
 | x :: xs, [] => by rw [eqSs] <;> simp
 | x :: xs, y :: ys => by
  rw [eqSs, Bool.and_eq_true, eqS_iff x y, eqSs_iff xs ys]
  simp
end
theorem eqS_ne {x y : S40} (h : x ≠ y) : eqS x y = false := by
 cases e : eqS x y with
 | false => rfl
 | true => exact absurd ((eqS_iff x y).1 e) h
theorem eqSs_ne {x y : List S40} (h : x ≠ y) : eqSs x y = false := by
 cases e : eqSs x y with
 | false => rfl
 | true => exact absurd ((eqSs_iff x y).1 e) h
theorem eqS_refl (x : S40) : eqS x x = true := (eqS_iff x x).2 rfl
theorem eqS_eq (x y : S40) : eqS x y = ((decide (x.f0 = y.f0) && decide (x.f1.toList = y.f1.toList)) && ((decide (x.f2 = y.f2) && decide (x.f3 = y.f3)) && eqSs x.f4 y.f4)) := by
 obtain ⟨_, _, _, _, _⟩ := x
 obtain ⟨_, _, _, _, _⟩ := y
 rw [eqS]
theorem skid_lt {x k : S40} (h : k ∈ x.f4) : SizeOf.sizeOf k < SizeOf.sizeOf x := by
 obtain ⟨a, b, c, d, e⟩ := x
 have := List.sizeOf_lt_of_mem h
 simp only [S40.mk.sizeOf_spec] at this ⊢
 omega
theorem blk2s (w : World) (a o : Obj) : ((w.alloc a).alloc o).heap[w.heap.size + 1]? = some o := by
 have := blk_new (w.alloc a) o
 simpa using this
theorem blk1s (w : World) (a o : Obj) : ((w.alloc a).alloc o).heap[w.heap.size]? = some a := blk_alloc (blk_new _ _) _
/-- A scope's row in memory. -/
def RowS (w : World) (x : S40) (A : Option Addr) (c : Nat) : Prop := x.f4.length ≤ c ∧ Kd.C k40 w A x.f4.length x.f4
theorem RowS.below {w w' : World} {x : S40} {A : Option Addr} {c : Nat} (h : RowS w x A c) (hb : Below w.heap.size w w') : RowS w' x A c := ⟨h.1, Kd.C_below h.2 hb⟩
def SameC (x y : S40) : Prop := ∀ A c B d w, RowS w x A c → RowS w y B d →
 Calls Try.prog 53 #[.agg #[.int .i64 x.f0, .string x.f1, .int .i64 x.f2, .int .i64 x.f3, .slice A x.f4.length c], .agg #[.int .i64 y.f0, .string y.f1, .int .i64 y.f2, .int .i64 y.f3, .slice B y.f4.length d]] w fun e w' => e = .returned (.bool (eqS x y)) ∧ Below w.heap.size w w'
theorem cell_al {W : World} {a : Addr} {v : Value} (h : W.cell? a = some v) (o : Obj) : (W.alloc o).cell? a = some v :=
 ((below_alloc (Below.refl W.heap.size W) o).cell (World.block_lt_of_cell? _ _ h)).trans h

set_option maxHeartbeats 4000000 in
set_option maxRecDepth 100000 in
theorem equalS (xs ys : List S40) (A B : Option Addr) (c d : Nat) (w : World) (hr : Kd.C k40 w A xs.length xs) (hs : Kd.C k40 w B ys.length ys) (hp : ∀ x ∈ xs, ∀ y ∈ ys, SameC x y) :
  Calls Try.prog 101 #[.slice A xs.length c, .slice B ys.length d, .func (.func 53) #[] #[]] w fun e w' => e = .returned (.bool (eqSs xs ys)) ∧ Below w.heap.size w w' := by
 have HR := Aside0.mk hr
 have HS := Aside0.mk hs
 have HP := Aside0.mk hp
 have HM := Aside0.mk hr.2.1
 have hu24 := Try.underlying38
 have hu26 := Try.underlying40
 clear hr hs hp
 by_cases hlen : xs.length = ys.length
 ·have z1 : (xs.length == ys.length) = true := by simpa using hlen
  have z2 : (xs.length != ys.length) = false := by simpa using hlen
  have z3 : ((xs.length : Int) != (ys.length : Int)) = false := by simp [hlen]
  have HL := Aside0.mk hlen
  clear hlen
  go_enter Try.func101, Try.ntmps101
  go_wp2
  go_loopg [17] xs.length (fun gf s17 wx => ∃ (i : Nat), s17 = .int .i64 (i : Int) ∧ i + gf = xs.length ∧ Below w.heap.size w wx ∧ xs.take i = ys.take i)
  case atStart => exact ⟨0, rfl, by omega, Below.refl _ _, rfl⟩
  case round =>
   obtain ⟨i, rfl, hi, hbel, hpre⟩ := hrel
   have HI := Aside0.mk hbel
   have HU := Aside0.mk hpre
   have HG := Aside0.mk hi
   clear hbel hpre hi
   by_cases hlt : i < xs.length
   ·have hlt2 : i < ys.length := by have := HL.out; omega
    have hl1 : decide ((i : Int) < (xs.length : Int)) = true := decide_eq_true (by omega)
    have hw1 : wrap64 ((i : Int) + 1) = ((i + 1 : Nat) : Int) := by rw [Aid.w64 (by omega) (by have := HM.out; omega)]; omega
    obtain ⟨ad, A3, c3, rfl, hx0, hx1, hx2, hx3, hx4, hl3, hr3⟩ := at_T40 HR.out (i : Int) (by omega) (by omega)
    obtain ⟨bd, B3, d3, rfl, hy0, hy1, hy2, hy3, hy4, hm3, hs3⟩ := at_T40 HS.out (i : Int) (by omega) (by omega)
    have hrd : rd_T40 xs (i : Int) = xs[i] := by simp [rd_T40, List.getD_eq_getElem?_getD, List.getElem?_eq_getElem hlt]
    have hsd : rd_T40 ys (i : Int) = ys[i] := by simp [rd_T40, List.getD_eq_getElem?_getD, List.getElem?_eq_getElem hlt2]
    have hbm := HI.out
    replace hx0 := (hbm.cell (World.block_lt_of_cell? _ _ hx0)).trans hx0
    replace hx1 := (hbm.cell (World.block_lt_of_cell? _ _ hx1)).trans hx1
    replace hx2 := (hbm.cell (World.block_lt_of_cell? _ _ hx2)).trans hx2
    replace hx3 := (hbm.cell (World.block_lt_of_cell? _ _ hx3)).trans hx3
    replace hx4 := (hbm.cell (World.block_lt_of_cell? _ _ hx4)).trans hx4
    replace hy0 := (hbm.cell (World.block_lt_of_cell? _ _ hy0)).trans hy0
    replace hy1 := (hbm.cell (World.block_lt_of_cell? _ _ hy1)).trans hy1
    replace hy2 := (hbm.cell (World.block_lt_of_cell? _ _ hy2)).trans hy2
    replace hy3 := (hbm.cell (World.block_lt_of_cell? _ _ hy3)).trans hy3
    replace hy4 := (hbm.cell (World.block_lt_of_cell? _ _ hy4)).trans hy4
    clear hbm
    rw [hrd] at hx0 hx1 hx2 hx3 hx4 hl3 hr3
    rw [hsd] at hy0 hy1 hy2 hy3 hy4 hm3 hs3
    simp only [Int.toNat_natCast] at hx0 hx1 hx2 hx3 hx4 hy0 hy1 hy2 hy3 hy4
    have HC := Aside0.mk (HP.out xs[i] (List.getElem_mem hlt) ys[i] (List.getElem_mem hlt2))
    have HX := Aside0.mk (show RowS w xs[i] A3 c3 from ⟨hl3, hr3⟩)
    have HY := Aside0.mk (show RowS w ys[i] B3 d3 from ⟨hm3, hs3⟩)
    have HT := Aside0.mk (show (xs[i] = ys[i] → xs.take (i + 1) = ys.take (i + 1)) ∧ (xs[i] ≠ ys[i] → xs ≠ ys) from by
     refine ⟨fun h => ?_, fun h e => h (by subst e; rfl)⟩
     rw [List.take_succ_eq_append_getElem hlt, List.take_succ_eq_append_getElem hlt2, HU.out, h])
    obtain ⟨x, hx⟩ : ∃ x, xs[i] = x := ⟨_, rfl⟩
    obtain ⟨y, hy⟩ : ∃ x, ys[i] = x := ⟨_, rfl⟩
    rw [hx] at hx0 hx1 hx2 hx3 hx4 HC HX HT
    rw [hy] at hy0 hy1 hy2 hy3 hy4 HC HY HT
    clear hx hy hrd hsd hl3 hr3 hm3 hs3
    have hy0_ := fun o => cell_al hy0 o
    have hy1_ := fun o => cell_al hy1 o
    have hy2_ := fun o => cell_al hy2 o
    have hy3_ := fun o => cell_al hy3 o
    have hy4_ := fun o => cell_al hy4 o
    have p1 : (0 : Int) ≤ (i : Int) := by omega
    have p2 : (i : Int) < (xs.length : Int) := by omega
    have p3 : (i : Int) < (ys.length : Int) := by omega
    by_cases hxy : x = y
    ·have HC2 := Aside0.mk (show eqS x y = true from (eqS_iff x y).2 hxy)
     have HT2 := Aside0.mk (HT.out.1 hxy)
     clear hxy hlt hlt2
     go_wp2_with (fail)
     refine (HC.out A3 c3 B3 d3 _ (HX.out.below (below_alloc (below_alloc HI.out _) _)) (HY.out.below (below_alloc (below_alloc HI.out _) _))).mono ?_
     rw [HC2.out]
     rintro e w' ⟨rfl, hv⟩
     have HV := Aside0.mk (below_step (below_alloc (below_alloc HI.out _) _) hv)
     clear hv
     go_wp2_with (fail)
     go_roundg (xs.length - (i + 1))
     case measure => have := HG.out; omega
     case rel => exact ⟨i + 1, by first | rfl | rw [hw1], by omega, HV.out, HT2.out⟩
    ·have HC2 := Aside0.mk (eqS_ne hxy)
     have HT2 := Aside0.mk (eqSs_ne (HT.out.2 hxy))
     clear hxy hlt hlt2
     go_wp2_with (fail)
     refine (HC.out A3 c3 B3 d3 _ (HX.out.below (below_alloc (below_alloc HI.out _) _)) (HY.out.below (below_alloc (below_alloc HI.out _) _))).mono ?_
     rw [HC2.out]
     rintro e w' ⟨rfl, hv⟩
     have HV := Aside0.mk (below_step (below_alloc (below_alloc HI.out _) _) hv)
     clear hv
     go_wp2_with (fail)
     go_ret
     rw [HT2.out]
     exact ⟨rfl, HV.out⟩
   ·have hl1 : decide ((i : Int) < (xs.length : Int)) = false := decide_eq_false (by omega)
    have HE := Aside0.mk ((eqSs_iff xs ys).2 (show xs = ys by
     have := HU.out
     rw [List.take_of_length_le (by omega), List.take_of_length_le (by have := HL.out; omega)] at this
     exact this))
    go_wp2
    go_ret
    rw [HE.out]
    exact ⟨rfl, HI.out⟩
 ·have z1 : (xs.length == ys.length) = false := by simpa using hlen
  have z2 : (xs.length != ys.length) = true := by simpa using hlen
  have z3 : ((xs.length : Int) != (ys.length : Int)) = true := by simp; omega
  have HL := Aside0.mk (eqSs_ne (fun e : xs = ys => hlen (by rw [e])))
  clear hlen
  go_enter Try.func101, Try.ntmps101
  go_wp2
  go_ret
  rw [HL.out]
  exact ⟨rfl, Below.refl _ _⟩

set_option maxHeartbeats 8000000 in
set_option maxRecDepth 100000 in
theorem same_n : ∀ (n : Nat) (x y : S40), SizeOf.sizeOf x < n → SameC x y := by
 intro n
 induction n with
 | zero => intro x y h; exact absurd h (by omega)
 | succ n ih =>
  intro x y hn A c B d w hx hy
  have HF := Aside0.mk (fun W (h1 : Kd.C k40 W A x.f4.length x.f4) (h2 : Kd.C k40 W B y.f4.length y.f4) => equalS x.f4 y.f4 A B c d W h1 h2 (fun a ha b hb => ih a b (by have := skid_lt ha; omega)))
  have HX := Aside0.mk hx
  have HY := Aside0.mk hy
  have HB := Aside0.mk (below_alloc (below_alloc (Below.refl w.heap.size w) (.cells #[.int .i64 x.f0, .string x.f1, .int .i64 x.f2, .int .i64 x.f3, .slice A x.f4.length c] 40)) (.cells #[.int .i64 y.f0, .string y.f1, .int .i64 y.f2, .int .i64 y.f3, .slice B y.f4.length d] 40))
  have H0 := Aside0.mk (show Blk ((w.alloc (.cells #[.int .i64 x.f0, .string x.f1, .int .i64 x.f2, .int .i64 x.f3, .slice A x.f4.length c] 40)).alloc (.cells #[.int .i64 y.f0, .string y.f1, .int .i64 y.f2, .int .i64 y.f3, .slice B y.f4.length d] 40)) w.heap.size 40 #[.int .i64 x.f0, .string x.f1, .int .i64 x.f2, .int .i64 x.f3, .slice A x.f4.length c] from blk1s _ _ _)
  have H1 := Aside0.mk (show Blk ((w.alloc (.cells #[.int .i64 x.f0, .string x.f1, .int .i64 x.f2, .int .i64 x.f3, .slice A x.f4.length c] 40)).alloc (.cells #[.int .i64 y.f0, .string y.f1, .int .i64 y.f2, .int .i64 y.f3, .slice B y.f4.length d] 40)) (w.heap.size + 1) 40 #[.int .i64 y.f0, .string y.f1, .int .i64 y.f2, .int .i64 y.f3, .slice B y.f4.length d] from blk2s _ _ _)
  have HE := Aside0.mk (eqS_eq x y)
  obtain ⟨r, hr⟩ : ∃ r, eqS x y = r := ⟨_, rfl⟩
  rw [hr] at HE ⊢
  have hu26 := Try.underlying40
  have q0 := H0.out.cell 0
  have q1 := H0.out.cell 1
  have q2 := H0.out.cell 2
  have q3 := H0.out.cell 3
  have q4 := H0.out.cell 4
  have s0 := H1.out.cell 0
  have s1 := H1.out.cell 1
  have s2 := H1.out.cell 2
  have s3 := H1.out.cell 3
  have s4 := H1.out.cell 4
  simp only [List.getElem?_toArray, List.getElem?_cons_zero, List.getElem?_cons_succ] at q0 q1 q2 q3 q4 s0 s1 s2 s3 s4
  clear hn ih hx hy hr
  by_cases e0 : x.f0 = y.f0
  ·have z0 : (x.f0 == y.f0) = true := by simp [e0]
   have y0 : decide (x.f0 = y.f0) = true := decide_eq_true e0
   by_cases e1 : x.f1.toList = y.f1.toList
   ·have z1 : (x.f1.toList == y.f1.toList) = true := by simp [e1]
    have y1 : decide (x.f1.toList = y.f1.toList) = true := decide_eq_true e1
    have v1 : decide (x.f1 = y.f1) = true := decide_eq_true (list_inj.1 e1)
    by_cases e2 : x.f2 = y.f2
    ·have z2 : (x.f2 == y.f2) = true := by simp [e2]
     have y2 : decide (x.f2 = y.f2) = true := decide_eq_true e2
     by_cases e3 : x.f3 = y.f3
     ·have z3 : (x.f3 == y.f3) = true := by simp [e3]
      have y3 : decide (x.f3 = y.f3) = true := decide_eq_true e3
      have HR := Aside0.mk (show r = eqSs x.f4 y.f4 by rw [HE.out, decide_eq_true e0, decide_eq_true e1, decide_eq_true e2, decide_eq_true e3]; rfl)
      clear e0 e1 e2 e3
      go_enter Try.func53, Try.ntmps53
      go_wp2_with (fail)
      refine (HF.out _ (Kd.C_below HX.out.2 HB.out) (Kd.C_below HY.out.2 HB.out)).mono ?_
      rintro e w2 ⟨rfl, hb⟩
      rw [← HR.out]
      have HB2 := Aside0.mk (below_step HB.out hb)
      clear hb
      go_wp2_with (fail)
      go_ret
      exact ⟨rfl, HB2.out⟩
     ·have z3 : (x.f3 == y.f3) = false := by simp [e3]
      have y3 : decide (x.f3 = y.f3) = false := decide_eq_false e3
      have HR := Aside0.mk (show r = false by rw [HE.out, decide_eq_true e0, decide_eq_true e1, decide_eq_true e2, decide_eq_false e3]; simp)
      rw [HR.out]
      clear e0 e1 e2 e3
      go_enter Try.func53, Try.ntmps53
      go_wp2_with (fail)
      go_ret
      exact ⟨rfl, HB.out⟩
    ·have z2 : (x.f2 == y.f2) = false := by simp [e2]
     have y2 : decide (x.f2 = y.f2) = false := decide_eq_false e2
     have HR := Aside0.mk (show r = false by rw [HE.out, decide_eq_true e0, decide_eq_true e1, decide_eq_false e2]; simp)
     rw [HR.out]
     clear e0 e1 e2
     go_enter Try.func53, Try.ntmps53
     go_wp2_with (fail)
     go_ret
     exact ⟨rfl, HB.out⟩
   ·have z1 : (x.f1.toList == y.f1.toList) = false := by simp [e1]
    have y1 : decide (x.f1.toList = y.f1.toList) = false := decide_eq_false e1
    have v1 : decide (x.f1 = y.f1) = false := decide_eq_false (fun h => e1 (list_inj.2 h))
    have HR := Aside0.mk (show r = false by rw [HE.out, decide_eq_true e0, decide_eq_false e1]; simp)
    rw [HR.out]
    clear e0 e1
    go_enter Try.func53, Try.ntmps53
    go_wp2_with (fail)
    go_ret
    exact ⟨rfl, HB.out⟩
  ·have z0 : (x.f0 == y.f0) = false := by simp [e0]
   have y0 : decide (x.f0 = y.f0) = false := decide_eq_false e0
   have HR := Aside0.mk (show r = false by rw [HE.out, decide_eq_false e0]; simp)
   rw [HR.out]
   clear e0
   go_enter Try.func53, Try.ntmps53
   go_wp2_with (fail)
   go_ret
   exact ⟨rfl, HB.out⟩

theorem same_c (x y : S40) : SameC x y := same_n _ x y (Nat.lt_succ_self _)
/-- The document's Same. -/
theorem rsame_ev : ∀ (n : Nat) (x y : S40), SizeOf.sizeOf x < n → nodes x ≤ 1000000 → Ev (fun k => hanaperref20_Same.f k x.f0 x.f1 x.f2 x.f3 x.f4 y.f0 y.f1 y.f2 y.f3 y.f4) (eqS x y) := by
 intro n
 induction n with
 | zero => intro x y h; exact absurd h (by omega)
 | succ n ih =>
  intro x y hn hN
  have hmx : x.f4.length ≤ 1000000 := by have := len_nodes x.f4; have := nodes_eq x; omega
  have stop : Ev (fun k => hanaperref20_Same.j0 k true x.f0 x.f1 x.f2 x.f3 x.f4 y.f0 y.f1 y.f2 y.f3 y.f4) false := Ev.step (fun k => by simp only [hanaperref20_Same.j0]; rfl) (pos (show true = true from rfl) (now rfl))
  have loop : ∀ (d i : Nat), i + d = x.f4.length → x.f4.length = y.f4.length → Ev (fun k => hanaperref20_Same.l0 k (i : Int) x.f0 x.f1 x.f2 x.f3 x.f4 y.f0 y.f1 y.f2 y.f3 y.f4) (eqSs (x.f4.drop i) (y.f4.drop i)) := by
   intro d
   induction d with
   | zero =>
    intro i hi hl
    rw [List.drop_of_length_le (by omega), List.drop_of_length_le (by omega), eqSs]
    exact Ev.step (fun k => by simp only [hanaperref20_Same.l0]; rfl) (neg (by omega) (now rfl))
   | succ d ihd =>
    intro i hi hl
    have hlt : i < x.f4.length := by omega
    have hlt2 : i < y.f4.length := by omega
    rw [List.drop_eq_getElem_cons hlt, List.drop_eq_getElem_cons hlt2, eqSs]
    refine Ev.step (fun k => by simp only [hanaperref20_Same.l0]; rfl) (pos (by omega) (pos (by omega) (pos (by omega) ?_)))
    have r1 : rd_T40 x.f4 (i : Int) = x.f4[i] := by simp [rd_T40, List.getD_eq_getElem?_getD, List.getElem?_eq_getElem hlt]
    have r2 : rd_T40 y.f4 (i : Int) = y.f4[i] := by simp [rd_T40, List.getD_eq_getElem?_getD, List.getElem?_eq_getElem hlt2]
    rw [r1, r2]
    have hm := List.getElem_mem hlt
    have hk := skid_lt (x := x) hm
    have hk2 := node_le hm
    have hk3 := nodes_eq x
    refine evBind (ih x.f4[i] y.f4[i] (by omega) (by omega)) ?_
    cases eqS x.f4[i] y.f4[i] with
    | false => exact neg Bool.false_ne_true (now rfl)
    | true =>
     refine pos rfl ?_
     rw [show wrap64 ((i : Int) + 1) = ((i + 1 : Nat) : Int) by rw [w64 (by omega) (by omega)]; omega, Bool.true_and]
     exact ihd (i + 1) (by omega) hl
  rw [eqS_eq]
  refine Ev.step (fun k => by simp only [hanaperref20_Same.f]; rfl) ?_
  by_cases e0 : x.f0 = y.f0
  ·refine pos e0 ?_
   by_cases e1 : x.f1.toList = y.f1.toList
   ·refine pos e1 ?_
    by_cases e2 : x.f2 = y.f2
    ·refine pos e2 ?_
     by_cases e3 : x.f3 = y.f3
     ·refine pos e3 ?_
      rw [decide_eq_true e0, decide_eq_true e1, decide_eq_true e2, decide_eq_true e3]
      simp only [Bool.true_and]
      by_cases hl : x.f4.length = y.f4.length
      ·rw [show ((x.f4.length : Int) != (y.f4.length : Int)) = false by simp [hl]]
       exact Ev.step (fun k => by simp only [hanaperref20_Same.j0]; rfl) (neg Bool.false_ne_true (loop x.f4.length 0 (by omega) hl))
      ·rw [show ((x.f4.length : Int) != (y.f4.length : Int)) = true by simp; omega, eqSs_ne (fun e => hl (by rw [e]))]
       exact stop
     ·rw [decide_eq_false e3, Bool.and_false, Bool.false_and, Bool.and_false]
      exact neg e3 stop
    ·rw [decide_eq_false e2, Bool.false_and, Bool.false_and, Bool.and_false]
     exact neg e2 stop
   ·rw [decide_eq_false e1, Bool.and_false, Bool.false_and]
    exact neg e1 stop
  ·rw [decide_eq_false e0, Bool.false_and, Bool.false_and]
   exact neg e0 stop

end Go.Proofs.Ytgdpabedlghiaaa.Scope
/- scope.Get, the document's Get and scope.Same in the printed functions' form. -/
namespace Go.Proofs.Ytgdpabedlghiaaa.Scope
open Go.RowKit Go.Proofs.Ytgdpabedlghiaaa.TlvPlain
def u8S (l : List Int) : Bool := l.all (fun x => decide (0 ≤ x) && decide (x ≤ 255))
theorem u8S_iff {l : List Int} : u8S l = true ↔ U8 l := by
  unfold u8S U8
  simp
end Go.Proofs.Ytgdpabedlghiaaa.Scope
namespace Go.Proofs.Ytgdpabedlghiaaa.PZ
set_option linter.unusedVariables false
open Go.RowKit Go.Proofs.YtgdpabedlghiaaaW.PrintWords
def scope_Get.f (l0 : List Int) : Option (Int × ByteArray × Int × Int × (List S40) × Int) := if (decide (l0.length ≤ 1000000) && Scope.u8S l0) = true then some ((Scope.getSc l0).1.f0, (Scope.getSc l0).1.f1, (Scope.getSc l0).1.f2, (Scope.getSc l0).1.f3, (Scope.getSc l0).1.f4, (Scope.getSc l0).2) else none
theorem scope_Get.calls (A0 : Option Addr) (c0 : Nat) (l0 : List Int) (r1 : Int) (r2 : ByteArray) (r3 : Int) (r4 : Int) (r5 : List S40) (r6 : Int) (w : World) (hr0 : Kd.C (Kd.int .u8) w A0 l0.length l0) (hc0 : l0.length ≤ c0) (h : scope_Get.f l0 = some (r1, r2, r3, r4, r5, r6)) :
    Calls Try.prog 50 #[.slice A0 l0.length c0] w fun e w' => ∃ v4_ : Value, e = .returned (.tuple #[.agg #[.int .i64 r1, .string r2, .int .i64 r3, .int .i64 r4, v4_], .int .i64 r6]) ∧ Kd.R k40 40 w' w.heap.size (fun _ => True) v4_ r5 ∧ Below w.heap.size w w' := by
  unfold scope_Get.f at h
  split at h
  · next hc =>
    simp only [Bool.and_eq_true, decide_eq_true_eq] at hc
    simp only [Option.some.injEq, Prod.mk.injEq] at h
    obtain ⟨rfl, rfl, rfl, rfl, rfl, rfl⟩ := h
    exact Scope.get_c w A0 c0 l0 hr0 hc0 (by have := hc.1; omega) (Scope.u8S_iff.1 hc.2)
  · cases h
def hanaperref20_Get.f (l0 : List Int) : Option (Int × ByteArray × Int × Int × (List S40) × Int) := if (decide (l0.length ≤ 1000000) && Scope.u8S l0) = true then some ((Scope.getSc l0).1.f0, (Scope.getSc l0).1.f1, (Scope.getSc l0).1.f2, (Scope.getSc l0).1.f3, (Scope.getSc l0).1.f4, (Scope.getSc l0).2) else none
theorem hanaperref20_Get.calls (A0 : Option Addr) (c0 : Nat) (l0 : List Int) (r1 : Int) (r2 : ByteArray) (r3 : Int) (r4 : Int) (r5 : List S40) (r6 : Int) (w : World) (hr0 : Kd.C (Kd.int .u8) w A0 l0.length l0) (hc0 : l0.length ≤ c0) (h : hanaperref20_Get.f l0 = some (r1, r2, r3, r4, r5, r6)) :
    Calls Try.prog 51 #[.slice A0 l0.length c0] w fun e w' => ∃ v4_ : Value, e = .returned (.tuple #[.agg #[.int .i64 r1, .string r2, .int .i64 r3, .int .i64 r4, v4_], .int .i64 r6]) ∧ Kd.R k40 40 w' w.heap.size (fun _ => True) v4_ r5 ∧ Below w.heap.size w w' := by
  unfold hanaperref20_Get.f at h
  split at h
  · next hc =>
    simp only [Bool.and_eq_true, decide_eq_true_eq] at hc
    simp only [Option.some.injEq, Prod.mk.injEq] at h
    obtain ⟨rfl, rfl, rfl, rfl, rfl, rfl⟩ := h
    exact Scope.rget_c w A0 c0 l0 hr0 hc0 (hc.1) (Scope.u8S_iff.1 hc.2)
  · cases h
def scope_Same.f (a0_0 : Int) (a0_1 : ByteArray) (a0_2 : Int) (a0_3 : Int) (l0_4 : List S40) (a1_0 : Int) (a1_1 : ByteArray) (a1_2 : Int) (a1_3 : Int) (l1_4 : List S40) : Option Bool := some (Scope.eqS ⟨a0_0, a0_1, a0_2, a0_3, l0_4⟩ ⟨a1_0, a1_1, a1_2, a1_3, l1_4⟩)
theorem scope_Same.calls (a0_0 : Int) (a0_1 : ByteArray) (a0_2 : Int) (a0_3 : Int) (A0_4 : Option Addr) (c0_4 : Nat) (l0_4 : List S40) (a1_0 : Int) (a1_1 : ByteArray) (a1_2 : Int) (a1_3 : Int) (A1_4 : Option Addr) (c1_4 : Nat) (l1_4 : List S40) (r : Bool) (w : World) (hr0_4 : Kd.C k40 w A0_4 l0_4.length l0_4) (hc0_4 : l0_4.length ≤ c0_4) (hr1_4 : Kd.C k40 w A1_4 l1_4.length l1_4) (hc1_4 : l1_4.length ≤ c1_4) (h : scope_Same.f a0_0 a0_1 a0_2 a0_3 l0_4 a1_0 a1_1 a1_2 a1_3 l1_4 = some r) :
    Calls Try.prog 53 #[.agg #[.int .i64 a0_0, .string a0_1, .int .i64 a0_2, .int .i64 a0_3, .slice A0_4 l0_4.length c0_4], .agg #[.int .i64 a1_0, .string a1_1, .int .i64 a1_2, .int .i64 a1_3, .slice A1_4 l1_4.length c1_4]] w fun e w' => e = .returned (.bool r) ∧ Below w.heap.size w w' := by
  obtain rfl := Option.some.inj h
  exact Scope.same_c ⟨a0_0, a0_1, a0_2, a0_3, l0_4⟩ ⟨a1_0, a1_1, a1_2, a1_3, l1_4⟩ A0_4 c0_4 A1_4 c1_4 w ⟨hc0_4, hr0_4⟩ ⟨hc1_4, hr1_4⟩
end Go.Proofs.Ytgdpabedlghiaaa.PZ
-- printed for this claim by a program (pall.sh)
-- mended by fixpz.py
namespace Go.Proofs.Ytgdpabedlghiaaa.PZ
open Go.RowKit Go.Proofs.YtgdpabedlghiaaaW.PrintWords Go.Proofs.YtgdpabedlghiaaaW.PrintLast Go.Proofs.YtgdpabedlghiaaaW.PrintMore
attribute [local go_sem] max2_int min2_int max_two min_two max_three min_three max_four min_four   -- for this text's walks alone
set_option linter.unusedVariables false
set_option linter.unusedSimpArgs false

/-! ### hanaperlaw20_num: function 27 -/
def hanaperlaw20_num.f (a0 : Int) : Option (Int) := some a0
set_option maxHeartbeats 8000000 in
set_option maxRecDepth 100000 in
theorem hanaperlaw20_num.calls (a0 : Int) (r : Int) (w : World) (h : hanaperlaw20_num.f a0 = some r) :
  Calls Try.prog 27 #[.int .i64 a0] w fun e w' => e = .returned (.int .i64 r) ∧ Drawn0 w w' := by
 have H : (some a0) = some r := h
 clear h
 obtain rfl := Option.some.inj H
 go_enter Try.func27, Try.ntmps27
 go_wp2
 go_ret
 exact ⟨by first | rfl | (simp; done) | (simp [*]; done), by repeat (first | exact Drawn0.refl _ | apply Drawn0.step)⟩

end Go.Proofs.Ytgdpabedlghiaaa.PZ
-- printed for this claim by a program (pall.sh)
-- mended by fixpz.py
namespace Go.Proofs.Ytgdpabedlghiaaa.PZ
open Go.RowKit Go.Proofs.YtgdpabedlghiaaaW.PrintWords Go.Proofs.YtgdpabedlghiaaaW.PrintLast Go.Proofs.YtgdpabedlghiaaaW.PrintMore
attribute [local go_sem] max2_int min2_int max_two min_two max_three min_three max_four min_four   -- for this text's walks alone
set_option linter.unusedVariables false
set_option linter.unusedSimpArgs false

/-! ### hanaperlaw20_live: function 24 -/
def hanaperlaw20_live.f (k : Nat)  : Option (Bool) := (some (([(⟨2, (⟨#[97]⟩ : ByteArray), 0, 0, ([] : List (S40))⟩ : S40)] : List (S40)) : List (S40))).bind fun y101 => ((scope_Put.f k 8 (⟨#[]⟩ : ByteArray) 0 0 y101).bind fun bt105 => ((hanaperlaw20_num.f bt105.2).bind fun t109 => (if t109 = 0 then ((hanaperref01_Same.f k bt105.1 (([8, 2, 1, 1, 97] : List Int))).bind fun t113 => (if t113 = true then ((scope_Match.f 8 (⟨#[]⟩ : ByteArray) 0 0 y101 (⟨#[]⟩ : ByteArray) (⟨#[98]⟩ : ByteArray) (⟨#[]⟩ : ByteArray) (⟨#[]⟩ : ByteArray) 0 0).bind fun t114 => (if t114 = true then ((scope_Match.f 8 (⟨#[]⟩ : ByteArray) 0 0 y101 (⟨#[]⟩ : ByteArray) (⟨#[97]⟩ : ByteArray) (⟨#[]⟩ : ByteArray) (⟨#[]⟩ : ByteArray) 0 0).bind fun t115 => (some (!t115))) else (some false))) else (some false))) else (some false))))
set_option maxHeartbeats 8000000 in
set_option maxRecDepth 100000 in
theorem hanaperlaw20_live.calls (k : Nat)  (r : Bool) (w : World) (h : hanaperlaw20_live.f k  = some r) :
  Calls Try.prog 24 #[] w fun e w' => e = .returned (.bool r) ∧ Below w.heap.size w w' := by
 have hu40 := Try.underlying40
 have hu46 := Try.underlying46
 have HB := Aside0.mk (Below.refl w.heap.size w)
 have H : ((some (([(⟨2, (⟨#[97]⟩ : ByteArray), 0, 0, ([] : List (S40))⟩ : S40)] : List (S40)) : List (S40))).bind fun y101 => ((scope_Put.f k 8 (⟨#[]⟩ : ByteArray) 0 0 y101).bind fun bt105 => ((hanaperlaw20_num.f bt105.2).bind fun t109 => (if t109 = 0 then ((hanaperref01_Same.f k bt105.1 (([8, 2, 1, 1, 97] : List Int))).bind fun t113 => (if t113 = true then ((scope_Match.f 8 (⟨#[]⟩ : ByteArray) 0 0 y101 (⟨#[]⟩ : ByteArray) (⟨#[98]⟩ : ByteArray) (⟨#[]⟩ : ByteArray) (⟨#[]⟩ : ByteArray) 0 0).bind fun t114 => (if t114 = true then ((scope_Match.f 8 (⟨#[]⟩ : ByteArray) 0 0 y101 (⟨#[]⟩ : ByteArray) (⟨#[97]⟩ : ByteArray) (⟨#[]⟩ : ByteArray) (⟨#[]⟩ : ByteArray) 0 0).bind fun t115 => (some (!t115))) else (some false))) else (some false))) else (some false))))) = some r := h
 clear h
 obtain ⟨y101, hy101⟩ : ∃ y_ : List (S40), y_ = (([(⟨2, (⟨#[97]⟩ : ByteArray), 0, 0, ([] : List (S40))⟩ : S40)] : List (S40))) := ⟨_, rfl⟩
 replace H : ((scope_Put.f k 8 (⟨#[]⟩ : ByteArray) 0 0 y101).bind fun bt105 => ((hanaperlaw20_num.f bt105.2).bind fun t109 => (if t109 = 0 then ((hanaperref01_Same.f k bt105.1 (([8, 2, 1, 1, 97] : List Int))).bind fun t113 => (if t113 = true then ((scope_Match.f 8 (⟨#[]⟩ : ByteArray) 0 0 y101 (⟨#[]⟩ : ByteArray) (⟨#[98]⟩ : ByteArray) (⟨#[]⟩ : ByteArray) (⟨#[]⟩ : ByteArray) 0 0).bind fun t114 => (if t114 = true then ((scope_Match.f 8 (⟨#[]⟩ : ByteArray) 0 0 y101 (⟨#[]⟩ : ByteArray) (⟨#[97]⟩ : ByteArray) (⟨#[]⟩ : ByteArray) (⟨#[]⟩ : ByteArray) 0 0).bind fun t115 => (some (!t115))) else (some false))) else (some false))) else (some false)))) = some r := by first | (rw [hy101]; with_reducible exact H) | (have H2_ := (Option.bind_some _ _).symm.trans H; rw [hy101]; with_reducible exact H2_) | (have H2_ := (Option.bind_some _ _).symm.trans H; with_reducible exact H2_) | with_reducible exact H | (rw [hy101]; exact H) | exact H
 have Ny101 := Aside0.mk hy101
 clear hy101
 replace H := Option.bind_eq_some_iff.mp H
 obtain ⟨⟨t105, t108⟩, A10, H⟩ := H
 replace H : ((hanaperlaw20_num.f t108).bind fun t109 => (if t109 = 0 then ((hanaperref01_Same.f k t105 (([8, 2, 1, 1, 97] : List Int))).bind fun t113 => (if t113 = true then ((scope_Match.f 8 (⟨#[]⟩ : ByteArray) 0 0 y101 (⟨#[]⟩ : ByteArray) (⟨#[98]⟩ : ByteArray) (⟨#[]⟩ : ByteArray) (⟨#[]⟩ : ByteArray) 0 0).bind fun t114 => (if t114 = true then ((scope_Match.f 8 (⟨#[]⟩ : ByteArray) 0 0 y101 (⟨#[]⟩ : ByteArray) (⟨#[97]⟩ : ByteArray) (⟨#[]⟩ : ByteArray) (⟨#[]⟩ : ByteArray) 0 0).bind fun t115 => (some (!t115))) else (some false))) else (some false))) else (some false))) = some r := H
 have A1 := Aside0.mk A10
 clear A10
 replace H := Option.bind_eq_some_iff.mp H
 obtain ⟨t109, A20, H⟩ := H
 replace H : (if t109 = 0 then ((hanaperref01_Same.f k t105 (([8, 2, 1, 1, 97] : List Int))).bind fun t113 => (if t113 = true then ((scope_Match.f 8 (⟨#[]⟩ : ByteArray) 0 0 y101 (⟨#[]⟩ : ByteArray) (⟨#[98]⟩ : ByteArray) (⟨#[]⟩ : ByteArray) (⟨#[]⟩ : ByteArray) 0 0).bind fun t114 => (if t114 = true then ((scope_Match.f 8 (⟨#[]⟩ : ByteArray) 0 0 y101 (⟨#[]⟩ : ByteArray) (⟨#[97]⟩ : ByteArray) (⟨#[]⟩ : ByteArray) (⟨#[]⟩ : ByteArray) 0 0).bind fun t115 => (some (!t115))) else (some false))) else (some false))) else (some false)) = some r := H
 have A2 := Aside0.mk A20
 clear A20
 by_cases c3 : t109 = 0
 ·rw [if_pos c3] at H
  have c3b0 : (t109 == 0) = true := beq_iff_eq.mpr c3
  have c3b1 : (t109 != 0) = false := bne_eq_false_iff_eq.mpr c3
  clear c3
  obtain ⟨y110, hy110⟩ : ∃ y_ : List Int, y_ = (([8, 2, 1, 1, 97] : List Int)) := ⟨_, rfl⟩
  replace H : ((hanaperref01_Same.f k t105 y110).bind fun t113 => (if t113 = true then ((scope_Match.f 8 (⟨#[]⟩ : ByteArray) 0 0 y101 (⟨#[]⟩ : ByteArray) (⟨#[98]⟩ : ByteArray) (⟨#[]⟩ : ByteArray) (⟨#[]⟩ : ByteArray) 0 0).bind fun t114 => (if t114 = true then ((scope_Match.f 8 (⟨#[]⟩ : ByteArray) 0 0 y101 (⟨#[]⟩ : ByteArray) (⟨#[97]⟩ : ByteArray) (⟨#[]⟩ : ByteArray) (⟨#[]⟩ : ByteArray) 0 0).bind fun t115 => (some (!t115))) else (some false))) else (some false))) = some r := by first | (rw [hy110]; with_reducible exact H) | (have H2_ := (Option.bind_some _ _).symm.trans H; rw [hy110]; with_reducible exact H2_) | (have H2_ := (Option.bind_some _ _).symm.trans H; with_reducible exact H2_) | with_reducible exact H | (rw [hy110]; exact H) | exact H
  have Ny110 := Aside0.mk hy110
  clear hy110
  replace H := Option.bind_eq_some_iff.mp H
  obtain ⟨t113, A40, H⟩ := H
  replace H : (if t113 = true then ((scope_Match.f 8 (⟨#[]⟩ : ByteArray) 0 0 y101 (⟨#[]⟩ : ByteArray) (⟨#[98]⟩ : ByteArray) (⟨#[]⟩ : ByteArray) (⟨#[]⟩ : ByteArray) 0 0).bind fun t114 => (if t114 = true then ((scope_Match.f 8 (⟨#[]⟩ : ByteArray) 0 0 y101 (⟨#[]⟩ : ByteArray) (⟨#[97]⟩ : ByteArray) (⟨#[]⟩ : ByteArray) (⟨#[]⟩ : ByteArray) 0 0).bind fun t115 => (some (!t115))) else (some false))) else (some false)) = some r := H
  have A4 := Aside0.mk A40
  clear A40
  by_cases c5 : t113 = true
  ·subst c5
   have H1 : ((scope_Match.f 8 (⟨#[]⟩ : ByteArray) 0 0 y101 (⟨#[]⟩ : ByteArray) (⟨#[98]⟩ : ByteArray) (⟨#[]⟩ : ByteArray) (⟨#[]⟩ : ByteArray) 0 0).bind fun t114 => (if t114 = true then ((scope_Match.f 8 (⟨#[]⟩ : ByteArray) 0 0 y101 (⟨#[]⟩ : ByteArray) (⟨#[97]⟩ : ByteArray) (⟨#[]⟩ : ByteArray) (⟨#[]⟩ : ByteArray) 0 0).bind fun t115 => (some (!t115))) else (some false))) = some r := by rw [if_pos rfl] at H; exact H
   clear H
   have H := H1
   clear H1
   replace H := Option.bind_eq_some_iff.mp H
   obtain ⟨t114, A60, H⟩ := H
   replace H : (if t114 = true then ((scope_Match.f 8 (⟨#[]⟩ : ByteArray) 0 0 y101 (⟨#[]⟩ : ByteArray) (⟨#[97]⟩ : ByteArray) (⟨#[]⟩ : ByteArray) (⟨#[]⟩ : ByteArray) 0 0).bind fun t115 => (some (!t115))) else (some false)) = some r := H
   have A6 := Aside0.mk A60
   clear A60
   by_cases c7 : t114 = true
   ·subst c7
    have H1 : ((scope_Match.f 8 (⟨#[]⟩ : ByteArray) 0 0 y101 (⟨#[]⟩ : ByteArray) (⟨#[97]⟩ : ByteArray) (⟨#[]⟩ : ByteArray) (⟨#[]⟩ : ByteArray) 0 0).bind fun t115 => (some (!t115))) = some r := by rw [if_pos rfl] at H; exact H
    clear H
    have H := H1
    clear H1
    replace H := Option.bind_eq_some_iff.mp H
    obtain ⟨t115, A80, H⟩ := H
    replace H : (some (!t115)) = some r := H
    have A8 := Aside0.mk A80
    clear A80
    obtain rfl := Option.some.inj H
    go_enter Try.func24, Try.ntmps24
    go_wp2_with (first | ((with_reducible refine gate_dst (N := 5) rfl ?_); (try (refine gate_guard (by rfl) ?_; dsimp only)); refine Kd.R_lit k40 _ 40 ?hg (N := 5) ?hd (xs := ([(⟨2, (⟨#[97]⟩ : ByteArray), 0, 0, ([] : List (S40))⟩ : S40)] : List (S40))) (inner := [.int .i64 2, .string (⟨#[97]⟩ : ByteArray), .int .i64 0, .int .i64 0, .slice none 0 0]) (ok := fun _ => True) (okp := fun _ => True) ?hr ?hp (fun _ hk => hk) trivial (Below.refl _ _) (Nat.le_refl _) (by simp) ?_; (case hd => rfl); (case hg => rfl); (case hr => first | (go_simp; done) | (go_simp; rfl)); (case hp => exact (Reps.c5 (show Kd.M k40 _ _ _ (⟨2, (⟨#[97]⟩ : ByteArray), 0, 0, ([] : List (S40))⟩ : S40) [.int .i64 2, .string (⟨#[97]⟩ : ByteArray), .int .i64 0, .int .i64 0, .slice none 0 0] from (k40_mkM _ _ _ (⟨2, (⟨#[97]⟩ : ByteArray), 0, 0, ([] : List (S40))⟩ : S40) (Kd.R_nil _ _ _ _ _))) (Reps.none _ _))); intro v102 w9 ho10 hb hg_ hnew_; clear hg_ hnew_; (first | rw [← Ny101.out] at ho10 | (simp only [Int.reduceToNat] at ho10; rw [← Ny101.out] at ho10)); have n0_ := Aside0.mk (Kd.R_lower ho10 (below_size (by repeat (first | (with_reducible first | exact HB.out | apply below_alloc | apply pw_below_drewN | apply below_drew1) | exact HB.out)))); have n1_ := Aside0.mk (below_step (by repeat (first | (with_reducible first | exact HB.out | apply below_alloc | apply pw_below_drewN | apply below_drew1) | exact HB.out)) hb); clear HB; have HO103 := n0_; have HB := n1_; clear n0_ n1_; clear hb ho10; obtain ⟨Ao11, co11, eo11⟩ := Kd.R_slice HO103.out; subst eo11) | ((with_reducible refine gate_dst (N := 1) rfl ?_); (try (refine gate_guard (by rfl) ?_; dsimp only)); refine box_event ?hg (N := 1) ?hd (cs := #[.int .i64 0, .string (⟨#[]⟩ : ByteArray), .int .i64 0, .int .i64 0, .slice none 0 0]) (t := 40) ?hr ?_; (case hd => rfl); (case hg => rfl); (case hr => first | (go_simp; done) | (go_simp; rfl)); intro gb104 hg w12 hbox hb; have n0_ := Aside0.mk (Kd.R_below (Kd.R_elderB (by (with_reducible repeat (first | apply Kd.R_alloc | apply Kd.R_drewN | apply Kd.R_drew)); exact HO103.out) gb104 (Nat.le_of_eq hg.symm)) hb); have n1_ := Aside0.mk (below_step (by repeat (first | (with_reducible first | exact HB.out | apply below_alloc | apply pw_below_drewN | apply below_drew1) | exact HB.out)) hb); have n2_ := Aside0.mk (hbox); have n3_ := Aside0.mk ((by rw [hg]; exact (below_size (by repeat (first | (with_reducible first | exact HB.out | apply below_alloc | apply pw_below_drewN | apply below_drew1) | exact HB.out))) : w.heap.size ≤ gb104)); have n4_ := Aside0.mk ((by rw [hg]; exact (below_size (by repeat (first | (with_reducible first | exact HB.out | apply below_alloc | apply pw_below_drewN | apply below_drew1) | exact HB.out))) : w.heap.size ≤ gb104)); clear HO103; clear HB; have HO103 := n0_; have HB := n1_; have BK104 := n2_; have GW104 := n3_; have GE104 := n4_; clear n0_ n1_ n2_ n3_ n4_; clear hb hbox hg; have hcz13_0 : w12.cell? ⟨gb104, 0, none⟩ = some (.int .i64 0) := (blk_cell BK104.out 0).trans rfl; have hcz13_1 : w12.cell? ⟨gb104, 1, none⟩ = some (.string (⟨#[]⟩ : ByteArray)) := (blk_cell BK104.out 1).trans rfl; have hcz13_2 : w12.cell? ⟨gb104, 2, none⟩ = some (.int .i64 0) := (blk_cell BK104.out 2).trans rfl; have hcz13_3 : w12.cell? ⟨gb104, 3, none⟩ = some (.int .i64 0) := (blk_cell BK104.out 3).trans rfl; have hcz13_4 : w12.cell? ⟨gb104, 4, none⟩ = some (.slice none 0 0) := (blk_cell BK104.out 4).trans rfl; have hfz13_0 := blk_frozen BK104.out 0; have hfz13_1 := blk_frozen BK104.out 1; have hfz13_2 := blk_frozen BK104.out 2; have hfz13_3 := blk_frozen BK104.out 3; have hfz13_4 := blk_frozen BK104.out 4) | ((with_reducible refine gate_callee (f := 25) rfl ?_); refine goesL_ (some 9) rfl rfl Try.func25 (by kernel_rfl) rfl #[.agg #[.int .i64 8, .string (⟨#[]⟩ : ByteArray), .int .i64 0, .int .i64 0, .slice Ao11 y101.length co11]] rfl (by (try simp only [List.map_toArray, List.map_cons, List.map_nil]); first | done | rfl | (simp only [List.length_drop, List.length_take]; rfl)) ?_; (with_reducible refine (scope_Put.calls k 8 (⟨#[]⟩ : ByteArray) 0 0 _ _ y101 t105 t108 _ ?side1 ?side2 A1.out).mono ?_); (case side1 => refine (Kd.R_reads' (e := 40) (base := w.heap.size) (ok := fun k_ => (True ∧ k_ ≠ gb104)) (n := y101.length) (c := co11) ?_).2.2; exact (by (with_reducible repeat (first | apply Kd.R_alloc | apply Kd.R_drewN | apply Kd.R_drew)); exact (Kd.R_mono (Kd.R_far (p := ⟨gb104, 4, none⟩) (Kd.R_far (p := ⟨gb104, 3, none⟩) (Kd.R_far (p := ⟨gb104, 2, none⟩) (Kd.R_far (p := ⟨gb104, 1, none⟩) (Kd.R_far (p := ⟨gb104, 0, none⟩) (Kd.R_mono HO103.out (fun k_ hk => (⟨hk, hk.2⟩ : _ ∧ k_ ≠ gb104))) (fun _ hk => hk.2) (.int .i64 8)) (fun _ hk => hk.2) (.string (⟨#[]⟩ : ByteArray))) (fun _ hk => hk.2) (.int .i64 0)) (fun _ hk => hk.2) (.int .i64 0)) (fun _ hk => hk.2) (.slice Ao11 y101.length co11)) (fun _ h_ => h_.1)))); (case side2 => exact (Kd.R_reads' HO103.out).2.1); rintro e w14 ⟨v106, rfl, ho0, hb⟩; refine ⟨_, rfl, ?_⟩; have n0_ := Aside0.mk (Kd.R_below (by (with_reducible repeat (first | apply Kd.R_alloc | apply Kd.R_drewN | apply Kd.R_drew)); exact (Kd.R_mono (Kd.R_far (p := ⟨gb104, 4, none⟩) (Kd.R_far (p := ⟨gb104, 3, none⟩) (Kd.R_far (p := ⟨gb104, 2, none⟩) (Kd.R_far (p := ⟨gb104, 1, none⟩) (Kd.R_far (p := ⟨gb104, 0, none⟩) (Kd.R_mono HO103.out (fun k_ hk => (⟨hk, hk.2⟩ : _ ∧ k_ ≠ gb104))) (fun _ hk => hk.2) (.int .i64 8)) (fun _ hk => hk.2) (.string (⟨#[]⟩ : ByteArray))) (fun _ hk => hk.2) (.int .i64 0)) (fun _ hk => hk.2) (.int .i64 0)) (fun _ hk => hk.2) (.slice Ao11 y101.length co11)) (fun _ h_ => h_.1))) hb); have n1_ := Aside0.mk (Kd.R_lower ho0 (below_size (by repeat (first | (with_reducible first | exact HB.out | apply below_alloc | apply pw_below_drewN | apply below_drew1 | refine below_set ?_ GE104.out) | exact HB.out)))); have n2_ := Aside0.mk (blk_below (g := gb104) (o := .cells #[.int .i64 8, .string (⟨#[]⟩ : ByteArray), .int .i64 0, .int .i64 0, .slice Ao11 y101.length co11] 40 (0, 0)) (by (with_reducible repeat (first | refine blk_drewN ?_ _ | refine blk_drew ?_ | refine blk_alloc ?_ _)); refine blk_put (cs := #[.int .i64 8, .string (⟨#[]⟩ : ByteArray), .int .i64 0, .int .i64 0, .slice none 0 0]) ?_ 4 _ rfl; (with_reducible repeat (first | refine blk_drewN ?_ _ | refine blk_drew ?_ | refine blk_alloc ?_ _)); refine blk_put (cs := #[.int .i64 8, .string (⟨#[]⟩ : ByteArray), .int .i64 0, .int .i64 0, .slice none 0 0]) ?_ 3 _ rfl; (with_reducible repeat (first | refine blk_drewN ?_ _ | refine blk_drew ?_ | refine blk_alloc ?_ _)); refine blk_put (cs := #[.int .i64 8, .string (⟨#[]⟩ : ByteArray), .int .i64 0, .int .i64 0, .slice none 0 0]) ?_ 2 _ rfl; (with_reducible repeat (first | refine blk_drewN ?_ _ | refine blk_drew ?_ | refine blk_alloc ?_ _)); refine blk_put (cs := #[.int .i64 8, .string (⟨#[]⟩ : ByteArray), .int .i64 0, .int .i64 0, .slice none 0 0]) ?_ 1 _ rfl; (with_reducible repeat (first | refine blk_drewN ?_ _ | refine blk_drew ?_ | refine blk_alloc ?_ _)); refine blk_put (cs := #[.int .i64 0, .string (⟨#[]⟩ : ByteArray), .int .i64 0, .int .i64 0, .slice none 0 0]) ?_ 0 _ rfl; (with_reducible repeat (first | refine blk_drewN ?_ _ | refine blk_drew ?_ | refine blk_alloc ?_ _)); exact BK104.out) hb); have n3_ := Aside0.mk (below_step (by repeat (first | (with_reducible first | exact HB.out | apply below_alloc | apply pw_below_drewN | apply below_drew1 | refine below_set ?_ GE104.out) | exact HB.out)) hb); clear HO103; clear BK104; clear HB; have HO103 := n0_; have HO107 := n1_; have BK104 := n2_; have HB := n3_; clear n0_ n1_ n2_ n3_; (try clear hb); (try clear hb2); (try clear hk); (try clear hi); (try clear ho0)) | ((with_reducible refine gate_callee (f := 27) rfl ?_); refine goesL_ (some 13) rfl rfl Try.func27 (by kernel_rfl) rfl #[.int .i64 t108] rfl (by (try simp only [List.map_toArray, List.map_cons, List.map_nil]); first | done | rfl | (simp only [List.length_drop, List.length_take]; rfl)) ?_; (with_reducible refine (hanaperlaw20_num.calls t108 t109 _ A2.out).mono ?_); rintro e w' ⟨rfl, ⟨nd, rfl⟩⟩; refine ⟨_, rfl, ?_⟩) | ((with_reducible refine gate_dst (N := 17) rfl ?_); (try (refine gate_guard (by rfl) ?_; dsimp only)); refine Kd.R_lit (Kd.int .u8) _ 5 ?hg (N := 17) ?hd (xs := ([8, 2, 1, 1, 97] : List Int)) (inner := [.int .u8 8, .int .u8 2, .int .u8 1, .int .u8 1, .int .u8 97]) (ok := fun _ => True) (okp := fun _ => True) ?hr ?hp (fun _ hk => hk) trivial (Below.refl _ _) (Nat.le_refl _) (by simp) ?_; (case hd => rfl); (case hg => rfl); (case hr => first | (go_simp; done) | (go_simp; rfl)); (case hp => exact (Reps.one (show Kd.M (Kd.int .u8) _ _ _ 8 [.int .u8 8] from rfl) (Reps.one (show Kd.M (Kd.int .u8) _ _ _ 2 [.int .u8 2] from rfl) (Reps.one (show Kd.M (Kd.int .u8) _ _ _ 1 [.int .u8 1] from rfl) (Reps.one (show Kd.M (Kd.int .u8) _ _ _ 1 [.int .u8 1] from rfl) (Reps.one (show Kd.M (Kd.int .u8) _ _ _ 97 [.int .u8 97] from rfl) (Reps.none _ _))))))); intro v111 w15 ho16 hb hg_ hnew_; clear hg_ hnew_; (first | rw [← Ny110.out] at ho16 | (simp only [Int.reduceToNat] at ho16; rw [← Ny110.out] at ho16)); have n0_ := Aside0.mk (Kd.R_below (by (with_reducible repeat (first | apply Kd.R_alloc | apply Kd.R_drewN | apply Kd.R_drew)); exact HO103.out) hb); have n1_ := Aside0.mk (Kd.R_elder' (by (with_reducible repeat (first | apply Kd.R_alloc | apply Kd.R_drewN | apply Kd.R_drew)); exact HO107.out) (Kd.R_base ho16) hb); have n2_ := Aside0.mk (Kd.R_lower (Kd.R_new' ho16 (Kd.R_lt (by (with_reducible repeat (first | apply Kd.R_alloc | apply Kd.R_drewN | apply Kd.R_drew)); exact HO107.out))) (below_size (by repeat (first | (with_reducible first | exact HB.out | apply below_alloc | apply pw_below_drewN | apply below_drew1 | refine below_set ?_ GE104.out) | exact HB.out)))); have n3_ := Aside0.mk (blk_below (g := gb104) (o := .cells #[.int .i64 8, .string (⟨#[]⟩ : ByteArray), .int .i64 0, .int .i64 0, .slice Ao11 y101.length co11] 40 (0, 0)) (by (with_reducible repeat (first | refine blk_drewN ?_ _ | refine blk_drew ?_ | refine blk_alloc ?_ _)); exact BK104.out) hb); have n4_ := Aside0.mk (below_step (by repeat (first | (with_reducible first | exact HB.out | apply below_alloc | apply pw_below_drewN | apply below_drew1 | refine below_set ?_ GE104.out) | exact HB.out)) hb); clear HO103; clear HO107; clear BK104; clear HB; have HO103 := n0_; have HO107 := n1_; have HO112 := n2_; have BK104 := n3_; have HB := n4_; clear n0_ n1_ n2_ n3_ n4_; clear hb ho16; obtain ⟨Ao17, co17, eo17⟩ := Kd.R_slice HO107.out; subst eo17; obtain ⟨Ao18, co18, eo18⟩ := Kd.R_slice HO112.out; subst eo18) | (go_at_call 18; (with_reducible refine (hanaperref01_Same.calls k _ _ t105 _ _ y110 true _ ?side1 ?side2 ?side3 ?side4 A4.out).mono ?_); (case side1 => repeat (first | exact (Kd.R_reads' HO107.out).2.2 | (with_reducible refine Kd.C_alloc ?_ _) | (with_reducible refine Kd.C_drewN ?_ _) | (with_reducible refine Kd.C_drew ?_))); (case side2 => exact (Kd.R_reads' HO107.out).2.1); (case side3 => repeat (first | exact (Kd.R_reads' HO112.out).2.2 | (with_reducible refine Kd.C_alloc ?_ _) | (with_reducible refine Kd.C_drewN ?_ _) | (with_reducible refine Kd.C_drew ?_))); (case side4 => exact (Kd.R_reads' HO112.out).2.1); rintro e w' ⟨rfl, ⟨nd, rfl⟩⟩; have hcz19_0 : w15.cell? ⟨gb104, 0, none⟩ = some (.int .i64 8) := (blk_cell BK104.out 0).trans rfl; have hcz19_1 : w15.cell? ⟨gb104, 1, none⟩ = some (.string (⟨#[]⟩ : ByteArray)) := (blk_cell BK104.out 1).trans rfl; have hcz19_2 : w15.cell? ⟨gb104, 2, none⟩ = some (.int .i64 0) := (blk_cell BK104.out 2).trans rfl; have hcz19_3 : w15.cell? ⟨gb104, 3, none⟩ = some (.int .i64 0) := (blk_cell BK104.out 3).trans rfl; have hcz19_4 : w15.cell? ⟨gb104, 4, none⟩ = some (.slice Ao11 y101.length co11) := (blk_cell BK104.out 4).trans rfl; have hfz19_0 := blk_frozen BK104.out 0; have hfz19_1 := blk_frozen BK104.out 1; have hfz19_2 := blk_frozen BK104.out 2; have hfz19_3 := blk_frozen BK104.out 3; have hfz19_4 := blk_frozen BK104.out 4) | (go_at_call 29; (with_reducible refine (scope_Match.calls 8 (⟨#[]⟩ : ByteArray) 0 0 _ _ y101 (⟨#[]⟩ : ByteArray) (⟨#[98]⟩ : ByteArray) (⟨#[]⟩ : ByteArray) (⟨#[]⟩ : ByteArray) 0 0 true _ ?side1 ?side2 A6.out).mono ?_); (case side1 => repeat (first | exact (Kd.R_reads' HO103.out).2.2 | (with_reducible refine Kd.C_alloc ?_ _) | (with_reducible refine Kd.C_drewN ?_ _) | (with_reducible refine Kd.C_drew ?_))); (case side2 => exact (Kd.R_reads' HO103.out).2.1); rintro e w20 ⟨rfl, hb⟩; have n0_ := Aside0.mk (Kd.R_below (by (with_reducible repeat (first | apply Kd.R_alloc | apply Kd.R_drewN | apply Kd.R_drew)); exact HO103.out) hb); have n1_ := Aside0.mk (Kd.R_below (by (with_reducible repeat (first | apply Kd.R_alloc | apply Kd.R_drewN | apply Kd.R_drew)); exact HO107.out) hb); have n2_ := Aside0.mk (Kd.R_below (by (with_reducible repeat (first | apply Kd.R_alloc | apply Kd.R_drewN | apply Kd.R_drew)); exact HO112.out) hb); have n3_ := Aside0.mk (blk_below (g := gb104) (o := .cells #[.int .i64 8, .string (⟨#[]⟩ : ByteArray), .int .i64 0, .int .i64 0, .slice Ao11 y101.length co11] 40 (0, 0)) (by (with_reducible repeat (first | refine blk_drewN ?_ _ | refine blk_drew ?_ | refine blk_alloc ?_ _)); exact BK104.out) hb); have n4_ := Aside0.mk (below_step (by repeat (first | (with_reducible first | exact HB.out | apply below_alloc | apply pw_below_drewN | apply below_drew1 | refine below_set ?_ GE104.out) | exact HB.out)) hb); clear HO103; clear HO107; clear HO112; clear BK104; clear HB; have HO103 := n0_; have HO107 := n1_; have HO112 := n2_; have BK104 := n3_; have HB := n4_; clear n0_ n1_ n2_ n3_ n4_; (try clear hb); (try clear hb2); (try clear hk); (try clear hi); have hcz21_0 : w20.cell? ⟨gb104, 0, none⟩ = some (.int .i64 8) := (blk_cell BK104.out 0).trans rfl; have hcz21_1 : w20.cell? ⟨gb104, 1, none⟩ = some (.string (⟨#[]⟩ : ByteArray)) := (blk_cell BK104.out 1).trans rfl; have hcz21_2 : w20.cell? ⟨gb104, 2, none⟩ = some (.int .i64 0) := (blk_cell BK104.out 2).trans rfl; have hcz21_3 : w20.cell? ⟨gb104, 3, none⟩ = some (.int .i64 0) := (blk_cell BK104.out 3).trans rfl; have hcz21_4 : w20.cell? ⟨gb104, 4, none⟩ = some (.slice Ao11 y101.length co11) := (blk_cell BK104.out 4).trans rfl; have hfz21_0 := blk_frozen BK104.out 0; have hfz21_1 := blk_frozen BK104.out 1; have hfz21_2 := blk_frozen BK104.out 2; have hfz21_3 := blk_frozen BK104.out 3; have hfz21_4 := blk_frozen BK104.out 4) | (go_at_call 29; (with_reducible refine (scope_Match.calls 8 (⟨#[]⟩ : ByteArray) 0 0 _ _ y101 (⟨#[]⟩ : ByteArray) (⟨#[97]⟩ : ByteArray) (⟨#[]⟩ : ByteArray) (⟨#[]⟩ : ByteArray) 0 0 t115 _ ?side1 ?side2 A8.out).mono ?_); (case side1 => repeat (first | exact (Kd.R_reads' HO103.out).2.2 | (with_reducible refine Kd.C_alloc ?_ _) | (with_reducible refine Kd.C_drewN ?_ _) | (with_reducible refine Kd.C_drew ?_))); (case side2 => exact (Kd.R_reads' HO103.out).2.1); rintro e w22 ⟨rfl, hb⟩; have n0_ := Aside0.mk (Kd.R_below (by (with_reducible repeat (first | apply Kd.R_alloc | apply Kd.R_drewN | apply Kd.R_drew)); exact HO103.out) hb); have n1_ := Aside0.mk (Kd.R_below (by (with_reducible repeat (first | apply Kd.R_alloc | apply Kd.R_drewN | apply Kd.R_drew)); exact HO107.out) hb); have n2_ := Aside0.mk (Kd.R_below (by (with_reducible repeat (first | apply Kd.R_alloc | apply Kd.R_drewN | apply Kd.R_drew)); exact HO112.out) hb); have n3_ := Aside0.mk (blk_below (g := gb104) (o := .cells #[.int .i64 8, .string (⟨#[]⟩ : ByteArray), .int .i64 0, .int .i64 0, .slice Ao11 y101.length co11] 40 (0, 0)) (by (with_reducible repeat (first | refine blk_drewN ?_ _ | refine blk_drew ?_ | refine blk_alloc ?_ _)); exact BK104.out) hb); have n4_ := Aside0.mk (below_step (by repeat (first | (with_reducible first | exact HB.out | apply below_alloc | apply pw_below_drewN | apply below_drew1 | refine below_set ?_ GE104.out) | exact HB.out)) hb); clear HO103; clear HO107; clear HO112; clear BK104; clear HB; have HO103 := n0_; have HO107 := n1_; have HO112 := n2_; have BK104 := n3_; have HB := n4_; clear n0_ n1_ n2_ n3_ n4_; (try clear hb); (try clear hb2); (try clear hk); (try clear hi)))
    go_ret
    exact ⟨by first | rfl | (simp [errW_none, errW_some] <;> rfl) | (simp [*, errW_none, errW_some] <;> rfl), by repeat (first | (with_reducible first | exact HB.out | apply below_alloc | apply pw_below_drewN | apply below_drew1 | refine below_set ?_ GE104.out) | exact HB.out)⟩
   ·replace c7 := Bool.eq_false_iff.mpr c7
    subst c7
    have H1 : (some false) = some r := by rw [if_neg (show ¬ (false = true) by decide)] at H; exact H
    clear H
    have H := H1
    clear H1
    obtain rfl := Option.some.inj H
    go_enter Try.func24, Try.ntmps24
    go_wp2_with (first | ((with_reducible refine gate_dst (N := 5) rfl ?_); (try (refine gate_guard (by rfl) ?_; dsimp only)); refine Kd.R_lit k40 _ 40 ?hg (N := 5) ?hd (xs := ([(⟨2, (⟨#[97]⟩ : ByteArray), 0, 0, ([] : List (S40))⟩ : S40)] : List (S40))) (inner := [.int .i64 2, .string (⟨#[97]⟩ : ByteArray), .int .i64 0, .int .i64 0, .slice none 0 0]) (ok := fun _ => True) (okp := fun _ => True) ?hr ?hp (fun _ hk => hk) trivial (Below.refl _ _) (Nat.le_refl _) (by simp) ?_; (case hd => rfl); (case hg => rfl); (case hr => first | (go_simp; done) | (go_simp; rfl)); (case hp => exact (Reps.c5 (show Kd.M k40 _ _ _ (⟨2, (⟨#[97]⟩ : ByteArray), 0, 0, ([] : List (S40))⟩ : S40) [.int .i64 2, .string (⟨#[97]⟩ : ByteArray), .int .i64 0, .int .i64 0, .slice none 0 0] from (k40_mkM _ _ _ (⟨2, (⟨#[97]⟩ : ByteArray), 0, 0, ([] : List (S40))⟩ : S40) (Kd.R_nil _ _ _ _ _))) (Reps.none _ _))); intro v102 w23 ho24 hb hg_ hnew_; clear hg_ hnew_; (first | rw [← Ny101.out] at ho24 | (simp only [Int.reduceToNat] at ho24; rw [← Ny101.out] at ho24)); have n0_ := Aside0.mk (Kd.R_lower ho24 (below_size (by repeat (first | (with_reducible first | exact HB.out | apply below_alloc | apply pw_below_drewN | apply below_drew1) | exact HB.out)))); have n1_ := Aside0.mk (below_step (by repeat (first | (with_reducible first | exact HB.out | apply below_alloc | apply pw_below_drewN | apply below_drew1) | exact HB.out)) hb); clear HB; have HO103 := n0_; have HB := n1_; clear n0_ n1_; clear hb ho24; obtain ⟨Ao25, co25, eo25⟩ := Kd.R_slice HO103.out; subst eo25) | ((with_reducible refine gate_dst (N := 1) rfl ?_); (try (refine gate_guard (by rfl) ?_; dsimp only)); refine box_event ?hg (N := 1) ?hd (cs := #[.int .i64 0, .string (⟨#[]⟩ : ByteArray), .int .i64 0, .int .i64 0, .slice none 0 0]) (t := 40) ?hr ?_; (case hd => rfl); (case hg => rfl); (case hr => first | (go_simp; done) | (go_simp; rfl)); intro gb104 hg w26 hbox hb; have n0_ := Aside0.mk (Kd.R_below (Kd.R_elderB (by (with_reducible repeat (first | apply Kd.R_alloc | apply Kd.R_drewN | apply Kd.R_drew)); exact HO103.out) gb104 (Nat.le_of_eq hg.symm)) hb); have n1_ := Aside0.mk (below_step (by repeat (first | (with_reducible first | exact HB.out | apply below_alloc | apply pw_below_drewN | apply below_drew1) | exact HB.out)) hb); have n2_ := Aside0.mk (hbox); have n3_ := Aside0.mk ((by rw [hg]; exact (below_size (by repeat (first | (with_reducible first | exact HB.out | apply below_alloc | apply pw_below_drewN | apply below_drew1) | exact HB.out))) : w.heap.size ≤ gb104)); have n4_ := Aside0.mk ((by rw [hg]; exact (below_size (by repeat (first | (with_reducible first | exact HB.out | apply below_alloc | apply pw_below_drewN | apply below_drew1) | exact HB.out))) : w.heap.size ≤ gb104)); clear HO103; clear HB; have HO103 := n0_; have HB := n1_; have BK104 := n2_; have GW104 := n3_; have GE104 := n4_; clear n0_ n1_ n2_ n3_ n4_; clear hb hbox hg; have hcz27_0 : w26.cell? ⟨gb104, 0, none⟩ = some (.int .i64 0) := (blk_cell BK104.out 0).trans rfl; have hcz27_1 : w26.cell? ⟨gb104, 1, none⟩ = some (.string (⟨#[]⟩ : ByteArray)) := (blk_cell BK104.out 1).trans rfl; have hcz27_2 : w26.cell? ⟨gb104, 2, none⟩ = some (.int .i64 0) := (blk_cell BK104.out 2).trans rfl; have hcz27_3 : w26.cell? ⟨gb104, 3, none⟩ = some (.int .i64 0) := (blk_cell BK104.out 3).trans rfl; have hcz27_4 : w26.cell? ⟨gb104, 4, none⟩ = some (.slice none 0 0) := (blk_cell BK104.out 4).trans rfl; have hfz27_0 := blk_frozen BK104.out 0; have hfz27_1 := blk_frozen BK104.out 1; have hfz27_2 := blk_frozen BK104.out 2; have hfz27_3 := blk_frozen BK104.out 3; have hfz27_4 := blk_frozen BK104.out 4) | ((with_reducible refine gate_callee (f := 25) rfl ?_); refine goesL_ (some 9) rfl rfl Try.func25 (by kernel_rfl) rfl #[.agg #[.int .i64 8, .string (⟨#[]⟩ : ByteArray), .int .i64 0, .int .i64 0, .slice Ao25 y101.length co25]] rfl (by (try simp only [List.map_toArray, List.map_cons, List.map_nil]); first | done | rfl | (simp only [List.length_drop, List.length_take]; rfl)) ?_; (with_reducible refine (scope_Put.calls k 8 (⟨#[]⟩ : ByteArray) 0 0 _ _ y101 t105 t108 _ ?side1 ?side2 A1.out).mono ?_); (case side1 => refine (Kd.R_reads' (e := 40) (base := w.heap.size) (ok := fun k_ => (True ∧ k_ ≠ gb104)) (n := y101.length) (c := co25) ?_).2.2; exact (by (with_reducible repeat (first | apply Kd.R_alloc | apply Kd.R_drewN | apply Kd.R_drew)); exact (Kd.R_mono (Kd.R_far (p := ⟨gb104, 4, none⟩) (Kd.R_far (p := ⟨gb104, 3, none⟩) (Kd.R_far (p := ⟨gb104, 2, none⟩) (Kd.R_far (p := ⟨gb104, 1, none⟩) (Kd.R_far (p := ⟨gb104, 0, none⟩) (Kd.R_mono HO103.out (fun k_ hk => (⟨hk, hk.2⟩ : _ ∧ k_ ≠ gb104))) (fun _ hk => hk.2) (.int .i64 8)) (fun _ hk => hk.2) (.string (⟨#[]⟩ : ByteArray))) (fun _ hk => hk.2) (.int .i64 0)) (fun _ hk => hk.2) (.int .i64 0)) (fun _ hk => hk.2) (.slice Ao25 y101.length co25)) (fun _ h_ => h_.1)))); (case side2 => exact (Kd.R_reads' HO103.out).2.1); rintro e w28 ⟨v106, rfl, ho0, hb⟩; refine ⟨_, rfl, ?_⟩; have n0_ := Aside0.mk (Kd.R_below (by (with_reducible repeat (first | apply Kd.R_alloc | apply Kd.R_drewN | apply Kd.R_drew)); exact (Kd.R_mono (Kd.R_far (p := ⟨gb104, 4, none⟩) (Kd.R_far (p := ⟨gb104, 3, none⟩) (Kd.R_far (p := ⟨gb104, 2, none⟩) (Kd.R_far (p := ⟨gb104, 1, none⟩) (Kd.R_far (p := ⟨gb104, 0, none⟩) (Kd.R_mono HO103.out (fun k_ hk => (⟨hk, hk.2⟩ : _ ∧ k_ ≠ gb104))) (fun _ hk => hk.2) (.int .i64 8)) (fun _ hk => hk.2) (.string (⟨#[]⟩ : ByteArray))) (fun _ hk => hk.2) (.int .i64 0)) (fun _ hk => hk.2) (.int .i64 0)) (fun _ hk => hk.2) (.slice Ao25 y101.length co25)) (fun _ h_ => h_.1))) hb); have n1_ := Aside0.mk (Kd.R_lower ho0 (below_size (by repeat (first | (with_reducible first | exact HB.out | apply below_alloc | apply pw_below_drewN | apply below_drew1 | refine below_set ?_ GE104.out) | exact HB.out)))); have n2_ := Aside0.mk (blk_below (g := gb104) (o := .cells #[.int .i64 8, .string (⟨#[]⟩ : ByteArray), .int .i64 0, .int .i64 0, .slice Ao25 y101.length co25] 40 (0, 0)) (by (with_reducible repeat (first | refine blk_drewN ?_ _ | refine blk_drew ?_ | refine blk_alloc ?_ _)); refine blk_put (cs := #[.int .i64 8, .string (⟨#[]⟩ : ByteArray), .int .i64 0, .int .i64 0, .slice none 0 0]) ?_ 4 _ rfl; (with_reducible repeat (first | refine blk_drewN ?_ _ | refine blk_drew ?_ | refine blk_alloc ?_ _)); refine blk_put (cs := #[.int .i64 8, .string (⟨#[]⟩ : ByteArray), .int .i64 0, .int .i64 0, .slice none 0 0]) ?_ 3 _ rfl; (with_reducible repeat (first | refine blk_drewN ?_ _ | refine blk_drew ?_ | refine blk_alloc ?_ _)); refine blk_put (cs := #[.int .i64 8, .string (⟨#[]⟩ : ByteArray), .int .i64 0, .int .i64 0, .slice none 0 0]) ?_ 2 _ rfl; (with_reducible repeat (first | refine blk_drewN ?_ _ | refine blk_drew ?_ | refine blk_alloc ?_ _)); refine blk_put (cs := #[.int .i64 8, .string (⟨#[]⟩ : ByteArray), .int .i64 0, .int .i64 0, .slice none 0 0]) ?_ 1 _ rfl; (with_reducible repeat (first | refine blk_drewN ?_ _ | refine blk_drew ?_ | refine blk_alloc ?_ _)); refine blk_put (cs := #[.int .i64 0, .string (⟨#[]⟩ : ByteArray), .int .i64 0, .int .i64 0, .slice none 0 0]) ?_ 0 _ rfl; (with_reducible repeat (first | refine blk_drewN ?_ _ | refine blk_drew ?_ | refine blk_alloc ?_ _)); exact BK104.out) hb); have n3_ := Aside0.mk (below_step (by repeat (first | (with_reducible first | exact HB.out | apply below_alloc | apply pw_below_drewN | apply below_drew1 | refine below_set ?_ GE104.out) | exact HB.out)) hb); clear HO103; clear BK104; clear HB; have HO103 := n0_; have HO107 := n1_; have BK104 := n2_; have HB := n3_; clear n0_ n1_ n2_ n3_; (try clear hb); (try clear hb2); (try clear hk); (try clear hi); (try clear ho0)) | ((with_reducible refine gate_callee (f := 27) rfl ?_); refine goesL_ (some 13) rfl rfl Try.func27 (by kernel_rfl) rfl #[.int .i64 t108] rfl (by (try simp only [List.map_toArray, List.map_cons, List.map_nil]); first | done | rfl | (simp only [List.length_drop, List.length_take]; rfl)) ?_; (with_reducible refine (hanaperlaw20_num.calls t108 t109 _ A2.out).mono ?_); rintro e w' ⟨rfl, ⟨nd, rfl⟩⟩; refine ⟨_, rfl, ?_⟩) | ((with_reducible refine gate_dst (N := 17) rfl ?_); (try (refine gate_guard (by rfl) ?_; dsimp only)); refine Kd.R_lit (Kd.int .u8) _ 5 ?hg (N := 17) ?hd (xs := ([8, 2, 1, 1, 97] : List Int)) (inner := [.int .u8 8, .int .u8 2, .int .u8 1, .int .u8 1, .int .u8 97]) (ok := fun _ => True) (okp := fun _ => True) ?hr ?hp (fun _ hk => hk) trivial (Below.refl _ _) (Nat.le_refl _) (by simp) ?_; (case hd => rfl); (case hg => rfl); (case hr => first | (go_simp; done) | (go_simp; rfl)); (case hp => exact (Reps.one (show Kd.M (Kd.int .u8) _ _ _ 8 [.int .u8 8] from rfl) (Reps.one (show Kd.M (Kd.int .u8) _ _ _ 2 [.int .u8 2] from rfl) (Reps.one (show Kd.M (Kd.int .u8) _ _ _ 1 [.int .u8 1] from rfl) (Reps.one (show Kd.M (Kd.int .u8) _ _ _ 1 [.int .u8 1] from rfl) (Reps.one (show Kd.M (Kd.int .u8) _ _ _ 97 [.int .u8 97] from rfl) (Reps.none _ _))))))); intro v111 w29 ho30 hb hg_ hnew_; clear hg_ hnew_; (first | rw [← Ny110.out] at ho30 | (simp only [Int.reduceToNat] at ho30; rw [← Ny110.out] at ho30)); have n0_ := Aside0.mk (Kd.R_below (by (with_reducible repeat (first | apply Kd.R_alloc | apply Kd.R_drewN | apply Kd.R_drew)); exact HO103.out) hb); have n1_ := Aside0.mk (Kd.R_elder' (by (with_reducible repeat (first | apply Kd.R_alloc | apply Kd.R_drewN | apply Kd.R_drew)); exact HO107.out) (Kd.R_base ho30) hb); have n2_ := Aside0.mk (Kd.R_lower (Kd.R_new' ho30 (Kd.R_lt (by (with_reducible repeat (first | apply Kd.R_alloc | apply Kd.R_drewN | apply Kd.R_drew)); exact HO107.out))) (below_size (by repeat (first | (with_reducible first | exact HB.out | apply below_alloc | apply pw_below_drewN | apply below_drew1 | refine below_set ?_ GE104.out) | exact HB.out)))); have n3_ := Aside0.mk (blk_below (g := gb104) (o := .cells #[.int .i64 8, .string (⟨#[]⟩ : ByteArray), .int .i64 0, .int .i64 0, .slice Ao25 y101.length co25] 40 (0, 0)) (by (with_reducible repeat (first | refine blk_drewN ?_ _ | refine blk_drew ?_ | refine blk_alloc ?_ _)); exact BK104.out) hb); have n4_ := Aside0.mk (below_step (by repeat (first | (with_reducible first | exact HB.out | apply below_alloc | apply pw_below_drewN | apply below_drew1 | refine below_set ?_ GE104.out) | exact HB.out)) hb); clear HO103; clear HO107; clear BK104; clear HB; have HO103 := n0_; have HO107 := n1_; have HO112 := n2_; have BK104 := n3_; have HB := n4_; clear n0_ n1_ n2_ n3_ n4_; clear hb ho30; obtain ⟨Ao31, co31, eo31⟩ := Kd.R_slice HO107.out; subst eo31; obtain ⟨Ao32, co32, eo32⟩ := Kd.R_slice HO112.out; subst eo32) | (go_at_call 18; (with_reducible refine (hanaperref01_Same.calls k _ _ t105 _ _ y110 true _ ?side1 ?side2 ?side3 ?side4 A4.out).mono ?_); (case side1 => repeat (first | exact (Kd.R_reads' HO107.out).2.2 | (with_reducible refine Kd.C_alloc ?_ _) | (with_reducible refine Kd.C_drewN ?_ _) | (with_reducible refine Kd.C_drew ?_))); (case side2 => exact (Kd.R_reads' HO107.out).2.1); (case side3 => repeat (first | exact (Kd.R_reads' HO112.out).2.2 | (with_reducible refine Kd.C_alloc ?_ _) | (with_reducible refine Kd.C_drewN ?_ _) | (with_reducible refine Kd.C_drew ?_))); (case side4 => exact (Kd.R_reads' HO112.out).2.1); rintro e w' ⟨rfl, ⟨nd, rfl⟩⟩; have hcz33_0 : w29.cell? ⟨gb104, 0, none⟩ = some (.int .i64 8) := (blk_cell BK104.out 0).trans rfl; have hcz33_1 : w29.cell? ⟨gb104, 1, none⟩ = some (.string (⟨#[]⟩ : ByteArray)) := (blk_cell BK104.out 1).trans rfl; have hcz33_2 : w29.cell? ⟨gb104, 2, none⟩ = some (.int .i64 0) := (blk_cell BK104.out 2).trans rfl; have hcz33_3 : w29.cell? ⟨gb104, 3, none⟩ = some (.int .i64 0) := (blk_cell BK104.out 3).trans rfl; have hcz33_4 : w29.cell? ⟨gb104, 4, none⟩ = some (.slice Ao25 y101.length co25) := (blk_cell BK104.out 4).trans rfl; have hfz33_0 := blk_frozen BK104.out 0; have hfz33_1 := blk_frozen BK104.out 1; have hfz33_2 := blk_frozen BK104.out 2; have hfz33_3 := blk_frozen BK104.out 3; have hfz33_4 := blk_frozen BK104.out 4) | (go_at_call 29; (with_reducible refine (scope_Match.calls 8 (⟨#[]⟩ : ByteArray) 0 0 _ _ y101 (⟨#[]⟩ : ByteArray) (⟨#[98]⟩ : ByteArray) (⟨#[]⟩ : ByteArray) (⟨#[]⟩ : ByteArray) 0 0 false _ ?side1 ?side2 A6.out).mono ?_); (case side1 => repeat (first | exact (Kd.R_reads' HO103.out).2.2 | (with_reducible refine Kd.C_alloc ?_ _) | (with_reducible refine Kd.C_drewN ?_ _) | (with_reducible refine Kd.C_drew ?_))); (case side2 => exact (Kd.R_reads' HO103.out).2.1); rintro e w34 ⟨rfl, hb⟩; have n0_ := Aside0.mk (Kd.R_below (by (with_reducible repeat (first | apply Kd.R_alloc | apply Kd.R_drewN | apply Kd.R_drew)); exact HO103.out) hb); have n1_ := Aside0.mk (Kd.R_below (by (with_reducible repeat (first | apply Kd.R_alloc | apply Kd.R_drewN | apply Kd.R_drew)); exact HO107.out) hb); have n2_ := Aside0.mk (Kd.R_below (by (with_reducible repeat (first | apply Kd.R_alloc | apply Kd.R_drewN | apply Kd.R_drew)); exact HO112.out) hb); have n3_ := Aside0.mk (blk_below (g := gb104) (o := .cells #[.int .i64 8, .string (⟨#[]⟩ : ByteArray), .int .i64 0, .int .i64 0, .slice Ao25 y101.length co25] 40 (0, 0)) (by (with_reducible repeat (first | refine blk_drewN ?_ _ | refine blk_drew ?_ | refine blk_alloc ?_ _)); exact BK104.out) hb); have n4_ := Aside0.mk (below_step (by repeat (first | (with_reducible first | exact HB.out | apply below_alloc | apply pw_below_drewN | apply below_drew1 | refine below_set ?_ GE104.out) | exact HB.out)) hb); clear HO103; clear HO107; clear HO112; clear BK104; clear HB; have HO103 := n0_; have HO107 := n1_; have HO112 := n2_; have BK104 := n3_; have HB := n4_; clear n0_ n1_ n2_ n3_ n4_; (try clear hb); (try clear hb2); (try clear hk); (try clear hi)))
    go_ret
    exact ⟨by first | rfl | (simp [errW_none, errW_some] <;> rfl) | (simp [*, errW_none, errW_some] <;> rfl), by repeat (first | (with_reducible first | exact HB.out | apply below_alloc | apply pw_below_drewN | apply below_drew1 | refine below_set ?_ GE104.out) | exact HB.out)⟩
  ·replace c5 := Bool.eq_false_iff.mpr c5
   subst c5
   have H1 : (some false) = some r := by rw [if_neg (show ¬ (false = true) by decide)] at H; exact H
   clear H
   have H := H1
   clear H1
   obtain rfl := Option.some.inj H
   go_enter Try.func24, Try.ntmps24
   go_wp2_with (first | ((with_reducible refine gate_dst (N := 5) rfl ?_); (try (refine gate_guard (by rfl) ?_; dsimp only)); refine Kd.R_lit k40 _ 40 ?hg (N := 5) ?hd (xs := ([(⟨2, (⟨#[97]⟩ : ByteArray), 0, 0, ([] : List (S40))⟩ : S40)] : List (S40))) (inner := [.int .i64 2, .string (⟨#[97]⟩ : ByteArray), .int .i64 0, .int .i64 0, .slice none 0 0]) (ok := fun _ => True) (okp := fun _ => True) ?hr ?hp (fun _ hk => hk) trivial (Below.refl _ _) (Nat.le_refl _) (by simp) ?_; (case hd => rfl); (case hg => rfl); (case hr => first | (go_simp; done) | (go_simp; rfl)); (case hp => exact (Reps.c5 (show Kd.M k40 _ _ _ (⟨2, (⟨#[97]⟩ : ByteArray), 0, 0, ([] : List (S40))⟩ : S40) [.int .i64 2, .string (⟨#[97]⟩ : ByteArray), .int .i64 0, .int .i64 0, .slice none 0 0] from (k40_mkM _ _ _ (⟨2, (⟨#[97]⟩ : ByteArray), 0, 0, ([] : List (S40))⟩ : S40) (Kd.R_nil _ _ _ _ _))) (Reps.none _ _))); intro v102 w35 ho36 hb hg_ hnew_; clear hg_ hnew_; (first | rw [← Ny101.out] at ho36 | (simp only [Int.reduceToNat] at ho36; rw [← Ny101.out] at ho36)); have n0_ := Aside0.mk (Kd.R_lower ho36 (below_size (by repeat (first | (with_reducible first | exact HB.out | apply below_alloc | apply pw_below_drewN | apply below_drew1) | exact HB.out)))); have n1_ := Aside0.mk (below_step (by repeat (first | (with_reducible first | exact HB.out | apply below_alloc | apply pw_below_drewN | apply below_drew1) | exact HB.out)) hb); clear HB; have HO103 := n0_; have HB := n1_; clear n0_ n1_; clear hb ho36; obtain ⟨Ao37, co37, eo37⟩ := Kd.R_slice HO103.out; subst eo37) | ((with_reducible refine gate_dst (N := 1) rfl ?_); (try (refine gate_guard (by rfl) ?_; dsimp only)); refine box_event ?hg (N := 1) ?hd (cs := #[.int .i64 0, .string (⟨#[]⟩ : ByteArray), .int .i64 0, .int .i64 0, .slice none 0 0]) (t := 40) ?hr ?_; (case hd => rfl); (case hg => rfl); (case hr => first | (go_simp; done) | (go_simp; rfl)); intro gb104 hg w38 hbox hb; have n0_ := Aside0.mk (Kd.R_below (Kd.R_elderB (by (with_reducible repeat (first | apply Kd.R_alloc | apply Kd.R_drewN | apply Kd.R_drew)); exact HO103.out) gb104 (Nat.le_of_eq hg.symm)) hb); have n1_ := Aside0.mk (below_step (by repeat (first | (with_reducible first | exact HB.out | apply below_alloc | apply pw_below_drewN | apply below_drew1) | exact HB.out)) hb); have n2_ := Aside0.mk (hbox); have n3_ := Aside0.mk ((by rw [hg]; exact (below_size (by repeat (first | (with_reducible first | exact HB.out | apply below_alloc | apply pw_below_drewN | apply below_drew1) | exact HB.out))) : w.heap.size ≤ gb104)); have n4_ := Aside0.mk ((by rw [hg]; exact (below_size (by repeat (first | (with_reducible first | exact HB.out | apply below_alloc | apply pw_below_drewN | apply below_drew1) | exact HB.out))) : w.heap.size ≤ gb104)); clear HO103; clear HB; have HO103 := n0_; have HB := n1_; have BK104 := n2_; have GW104 := n3_; have GE104 := n4_; clear n0_ n1_ n2_ n3_ n4_; clear hb hbox hg; have hcz39_0 : w38.cell? ⟨gb104, 0, none⟩ = some (.int .i64 0) := (blk_cell BK104.out 0).trans rfl; have hcz39_1 : w38.cell? ⟨gb104, 1, none⟩ = some (.string (⟨#[]⟩ : ByteArray)) := (blk_cell BK104.out 1).trans rfl; have hcz39_2 : w38.cell? ⟨gb104, 2, none⟩ = some (.int .i64 0) := (blk_cell BK104.out 2).trans rfl; have hcz39_3 : w38.cell? ⟨gb104, 3, none⟩ = some (.int .i64 0) := (blk_cell BK104.out 3).trans rfl; have hcz39_4 : w38.cell? ⟨gb104, 4, none⟩ = some (.slice none 0 0) := (blk_cell BK104.out 4).trans rfl; have hfz39_0 := blk_frozen BK104.out 0; have hfz39_1 := blk_frozen BK104.out 1; have hfz39_2 := blk_frozen BK104.out 2; have hfz39_3 := blk_frozen BK104.out 3; have hfz39_4 := blk_frozen BK104.out 4) | ((with_reducible refine gate_callee (f := 25) rfl ?_); refine goesL_ (some 9) rfl rfl Try.func25 (by kernel_rfl) rfl #[.agg #[.int .i64 8, .string (⟨#[]⟩ : ByteArray), .int .i64 0, .int .i64 0, .slice Ao37 y101.length co37]] rfl (by (try simp only [List.map_toArray, List.map_cons, List.map_nil]); first | done | rfl | (simp only [List.length_drop, List.length_take]; rfl)) ?_; (with_reducible refine (scope_Put.calls k 8 (⟨#[]⟩ : ByteArray) 0 0 _ _ y101 t105 t108 _ ?side1 ?side2 A1.out).mono ?_); (case side1 => refine (Kd.R_reads' (e := 40) (base := w.heap.size) (ok := fun k_ => (True ∧ k_ ≠ gb104)) (n := y101.length) (c := co37) ?_).2.2; exact (by (with_reducible repeat (first | apply Kd.R_alloc | apply Kd.R_drewN | apply Kd.R_drew)); exact (Kd.R_mono (Kd.R_far (p := ⟨gb104, 4, none⟩) (Kd.R_far (p := ⟨gb104, 3, none⟩) (Kd.R_far (p := ⟨gb104, 2, none⟩) (Kd.R_far (p := ⟨gb104, 1, none⟩) (Kd.R_far (p := ⟨gb104, 0, none⟩) (Kd.R_mono HO103.out (fun k_ hk => (⟨hk, hk.2⟩ : _ ∧ k_ ≠ gb104))) (fun _ hk => hk.2) (.int .i64 8)) (fun _ hk => hk.2) (.string (⟨#[]⟩ : ByteArray))) (fun _ hk => hk.2) (.int .i64 0)) (fun _ hk => hk.2) (.int .i64 0)) (fun _ hk => hk.2) (.slice Ao37 y101.length co37)) (fun _ h_ => h_.1)))); (case side2 => exact (Kd.R_reads' HO103.out).2.1); rintro e w40 ⟨v106, rfl, ho0, hb⟩; refine ⟨_, rfl, ?_⟩; have n0_ := Aside0.mk (Kd.R_below (by (with_reducible repeat (first | apply Kd.R_alloc | apply Kd.R_drewN | apply Kd.R_drew)); exact (Kd.R_mono (Kd.R_far (p := ⟨gb104, 4, none⟩) (Kd.R_far (p := ⟨gb104, 3, none⟩) (Kd.R_far (p := ⟨gb104, 2, none⟩) (Kd.R_far (p := ⟨gb104, 1, none⟩) (Kd.R_far (p := ⟨gb104, 0, none⟩) (Kd.R_mono HO103.out (fun k_ hk => (⟨hk, hk.2⟩ : _ ∧ k_ ≠ gb104))) (fun _ hk => hk.2) (.int .i64 8)) (fun _ hk => hk.2) (.string (⟨#[]⟩ : ByteArray))) (fun _ hk => hk.2) (.int .i64 0)) (fun _ hk => hk.2) (.int .i64 0)) (fun _ hk => hk.2) (.slice Ao37 y101.length co37)) (fun _ h_ => h_.1))) hb); have n1_ := Aside0.mk (Kd.R_lower ho0 (below_size (by repeat (first | (with_reducible first | exact HB.out | apply below_alloc | apply pw_below_drewN | apply below_drew1 | refine below_set ?_ GE104.out) | exact HB.out)))); have n2_ := Aside0.mk (blk_below (g := gb104) (o := .cells #[.int .i64 8, .string (⟨#[]⟩ : ByteArray), .int .i64 0, .int .i64 0, .slice Ao37 y101.length co37] 40 (0, 0)) (by (with_reducible repeat (first | refine blk_drewN ?_ _ | refine blk_drew ?_ | refine blk_alloc ?_ _)); refine blk_put (cs := #[.int .i64 8, .string (⟨#[]⟩ : ByteArray), .int .i64 0, .int .i64 0, .slice none 0 0]) ?_ 4 _ rfl; (with_reducible repeat (first | refine blk_drewN ?_ _ | refine blk_drew ?_ | refine blk_alloc ?_ _)); refine blk_put (cs := #[.int .i64 8, .string (⟨#[]⟩ : ByteArray), .int .i64 0, .int .i64 0, .slice none 0 0]) ?_ 3 _ rfl; (with_reducible repeat (first | refine blk_drewN ?_ _ | refine blk_drew ?_ | refine blk_alloc ?_ _)); refine blk_put (cs := #[.int .i64 8, .string (⟨#[]⟩ : ByteArray), .int .i64 0, .int .i64 0, .slice none 0 0]) ?_ 2 _ rfl; (with_reducible repeat (first | refine blk_drewN ?_ _ | refine blk_drew ?_ | refine blk_alloc ?_ _)); refine blk_put (cs := #[.int .i64 8, .string (⟨#[]⟩ : ByteArray), .int .i64 0, .int .i64 0, .slice none 0 0]) ?_ 1 _ rfl; (with_reducible repeat (first | refine blk_drewN ?_ _ | refine blk_drew ?_ | refine blk_alloc ?_ _)); refine blk_put (cs := #[.int .i64 0, .string (⟨#[]⟩ : ByteArray), .int .i64 0, .int .i64 0, .slice none 0 0]) ?_ 0 _ rfl; (with_reducible repeat (first | refine blk_drewN ?_ _ | refine blk_drew ?_ | refine blk_alloc ?_ _)); exact BK104.out) hb); have n3_ := Aside0.mk (below_step (by repeat (first | (with_reducible first | exact HB.out | apply below_alloc | apply pw_below_drewN | apply below_drew1 | refine below_set ?_ GE104.out) | exact HB.out)) hb); clear HO103; clear BK104; clear HB; have HO103 := n0_; have HO107 := n1_; have BK104 := n2_; have HB := n3_; clear n0_ n1_ n2_ n3_; (try clear hb); (try clear hb2); (try clear hk); (try clear hi); (try clear ho0)) | ((with_reducible refine gate_callee (f := 27) rfl ?_); refine goesL_ (some 13) rfl rfl Try.func27 (by kernel_rfl) rfl #[.int .i64 t108] rfl (by (try simp only [List.map_toArray, List.map_cons, List.map_nil]); first | done | rfl | (simp only [List.length_drop, List.length_take]; rfl)) ?_; (with_reducible refine (hanaperlaw20_num.calls t108 t109 _ A2.out).mono ?_); rintro e w' ⟨rfl, ⟨nd, rfl⟩⟩; refine ⟨_, rfl, ?_⟩) | ((with_reducible refine gate_dst (N := 17) rfl ?_); (try (refine gate_guard (by rfl) ?_; dsimp only)); refine Kd.R_lit (Kd.int .u8) _ 5 ?hg (N := 17) ?hd (xs := ([8, 2, 1, 1, 97] : List Int)) (inner := [.int .u8 8, .int .u8 2, .int .u8 1, .int .u8 1, .int .u8 97]) (ok := fun _ => True) (okp := fun _ => True) ?hr ?hp (fun _ hk => hk) trivial (Below.refl _ _) (Nat.le_refl _) (by simp) ?_; (case hd => rfl); (case hg => rfl); (case hr => first | (go_simp; done) | (go_simp; rfl)); (case hp => exact (Reps.one (show Kd.M (Kd.int .u8) _ _ _ 8 [.int .u8 8] from rfl) (Reps.one (show Kd.M (Kd.int .u8) _ _ _ 2 [.int .u8 2] from rfl) (Reps.one (show Kd.M (Kd.int .u8) _ _ _ 1 [.int .u8 1] from rfl) (Reps.one (show Kd.M (Kd.int .u8) _ _ _ 1 [.int .u8 1] from rfl) (Reps.one (show Kd.M (Kd.int .u8) _ _ _ 97 [.int .u8 97] from rfl) (Reps.none _ _))))))); intro v111 w41 ho42 hb hg_ hnew_; clear hg_ hnew_; (first | rw [← Ny110.out] at ho42 | (simp only [Int.reduceToNat] at ho42; rw [← Ny110.out] at ho42)); have n0_ := Aside0.mk (Kd.R_below (by (with_reducible repeat (first | apply Kd.R_alloc | apply Kd.R_drewN | apply Kd.R_drew)); exact HO103.out) hb); have n1_ := Aside0.mk (Kd.R_elder' (by (with_reducible repeat (first | apply Kd.R_alloc | apply Kd.R_drewN | apply Kd.R_drew)); exact HO107.out) (Kd.R_base ho42) hb); have n2_ := Aside0.mk (Kd.R_lower (Kd.R_new' ho42 (Kd.R_lt (by (with_reducible repeat (first | apply Kd.R_alloc | apply Kd.R_drewN | apply Kd.R_drew)); exact HO107.out))) (below_size (by repeat (first | (with_reducible first | exact HB.out | apply below_alloc | apply pw_below_drewN | apply below_drew1 | refine below_set ?_ GE104.out) | exact HB.out)))); have n3_ := Aside0.mk (blk_below (g := gb104) (o := .cells #[.int .i64 8, .string (⟨#[]⟩ : ByteArray), .int .i64 0, .int .i64 0, .slice Ao37 y101.length co37] 40 (0, 0)) (by (with_reducible repeat (first | refine blk_drewN ?_ _ | refine blk_drew ?_ | refine blk_alloc ?_ _)); exact BK104.out) hb); have n4_ := Aside0.mk (below_step (by repeat (first | (with_reducible first | exact HB.out | apply below_alloc | apply pw_below_drewN | apply below_drew1 | refine below_set ?_ GE104.out) | exact HB.out)) hb); clear HO103; clear HO107; clear BK104; clear HB; have HO103 := n0_; have HO107 := n1_; have HO112 := n2_; have BK104 := n3_; have HB := n4_; clear n0_ n1_ n2_ n3_ n4_; clear hb ho42; obtain ⟨Ao43, co43, eo43⟩ := Kd.R_slice HO107.out; subst eo43; obtain ⟨Ao44, co44, eo44⟩ := Kd.R_slice HO112.out; subst eo44) | (go_at_call 18; (with_reducible refine (hanaperref01_Same.calls k _ _ t105 _ _ y110 false _ ?side1 ?side2 ?side3 ?side4 A4.out).mono ?_); (case side1 => repeat (first | exact (Kd.R_reads' HO107.out).2.2 | (with_reducible refine Kd.C_alloc ?_ _) | (with_reducible refine Kd.C_drewN ?_ _) | (with_reducible refine Kd.C_drew ?_))); (case side2 => exact (Kd.R_reads' HO107.out).2.1); (case side3 => repeat (first | exact (Kd.R_reads' HO112.out).2.2 | (with_reducible refine Kd.C_alloc ?_ _) | (with_reducible refine Kd.C_drewN ?_ _) | (with_reducible refine Kd.C_drew ?_))); (case side4 => exact (Kd.R_reads' HO112.out).2.1); rintro e w' ⟨rfl, ⟨nd, rfl⟩⟩))
   go_ret
   exact ⟨by first | rfl | (simp [errW_none, errW_some] <;> rfl) | (simp [*, errW_none, errW_some] <;> rfl), by repeat (first | (with_reducible first | exact HB.out | apply below_alloc | apply pw_below_drewN | apply below_drew1 | refine below_set ?_ GE104.out) | exact HB.out)⟩
 ·rw [if_neg c3] at H
  have c3b0 : (t109 == 0) = false := beq_eq_false_iff_ne.mpr c3
  have c3b1 : (t109 != 0) = true := bne_iff_ne.mpr c3
  obtain rfl := Option.some.inj H
  go_enter Try.func24, Try.ntmps24
  go_wp2_with (first | ((with_reducible refine gate_dst (N := 5) rfl ?_); (try (refine gate_guard (by rfl) ?_; dsimp only)); refine Kd.R_lit k40 _ 40 ?hg (N := 5) ?hd (xs := ([(⟨2, (⟨#[97]⟩ : ByteArray), 0, 0, ([] : List (S40))⟩ : S40)] : List (S40))) (inner := [.int .i64 2, .string (⟨#[97]⟩ : ByteArray), .int .i64 0, .int .i64 0, .slice none 0 0]) (ok := fun _ => True) (okp := fun _ => True) ?hr ?hp (fun _ hk => hk) trivial (Below.refl _ _) (Nat.le_refl _) (by simp) ?_; (case hd => rfl); (case hg => rfl); (case hr => first | (go_simp; done) | (go_simp; rfl)); (case hp => exact (Reps.c5 (show Kd.M k40 _ _ _ (⟨2, (⟨#[97]⟩ : ByteArray), 0, 0, ([] : List (S40))⟩ : S40) [.int .i64 2, .string (⟨#[97]⟩ : ByteArray), .int .i64 0, .int .i64 0, .slice none 0 0] from (k40_mkM _ _ _ (⟨2, (⟨#[97]⟩ : ByteArray), 0, 0, ([] : List (S40))⟩ : S40) (Kd.R_nil _ _ _ _ _))) (Reps.none _ _))); intro v102 w45 ho46 hb hg_ hnew_; clear hg_ hnew_; (first | rw [← Ny101.out] at ho46 | (simp only [Int.reduceToNat] at ho46; rw [← Ny101.out] at ho46)); have n0_ := Aside0.mk (Kd.R_lower ho46 (below_size (by repeat (first | (with_reducible first | exact HB.out | apply below_alloc | apply pw_below_drewN | apply below_drew1) | exact HB.out)))); have n1_ := Aside0.mk (below_step (by repeat (first | (with_reducible first | exact HB.out | apply below_alloc | apply pw_below_drewN | apply below_drew1) | exact HB.out)) hb); clear HB; have HO103 := n0_; have HB := n1_; clear n0_ n1_; clear hb ho46; obtain ⟨Ao47, co47, eo47⟩ := Kd.R_slice HO103.out; subst eo47) | ((with_reducible refine gate_dst (N := 1) rfl ?_); (try (refine gate_guard (by rfl) ?_; dsimp only)); refine box_event ?hg (N := 1) ?hd (cs := #[.int .i64 0, .string (⟨#[]⟩ : ByteArray), .int .i64 0, .int .i64 0, .slice none 0 0]) (t := 40) ?hr ?_; (case hd => rfl); (case hg => rfl); (case hr => first | (go_simp; done) | (go_simp; rfl)); intro gb104 hg w48 hbox hb; have n0_ := Aside0.mk (Kd.R_below (Kd.R_elderB (by (with_reducible repeat (first | apply Kd.R_alloc | apply Kd.R_drewN | apply Kd.R_drew)); exact HO103.out) gb104 (Nat.le_of_eq hg.symm)) hb); have n1_ := Aside0.mk (below_step (by repeat (first | (with_reducible first | exact HB.out | apply below_alloc | apply pw_below_drewN | apply below_drew1) | exact HB.out)) hb); have n2_ := Aside0.mk (hbox); have n3_ := Aside0.mk ((by rw [hg]; exact (below_size (by repeat (first | (with_reducible first | exact HB.out | apply below_alloc | apply pw_below_drewN | apply below_drew1) | exact HB.out))) : w.heap.size ≤ gb104)); have n4_ := Aside0.mk ((by rw [hg]; exact (below_size (by repeat (first | (with_reducible first | exact HB.out | apply below_alloc | apply pw_below_drewN | apply below_drew1) | exact HB.out))) : w.heap.size ≤ gb104)); clear HO103; clear HB; have HO103 := n0_; have HB := n1_; have BK104 := n2_; have GW104 := n3_; have GE104 := n4_; clear n0_ n1_ n2_ n3_ n4_; clear hb hbox hg; have hcz49_0 : w48.cell? ⟨gb104, 0, none⟩ = some (.int .i64 0) := (blk_cell BK104.out 0).trans rfl; have hcz49_1 : w48.cell? ⟨gb104, 1, none⟩ = some (.string (⟨#[]⟩ : ByteArray)) := (blk_cell BK104.out 1).trans rfl; have hcz49_2 : w48.cell? ⟨gb104, 2, none⟩ = some (.int .i64 0) := (blk_cell BK104.out 2).trans rfl; have hcz49_3 : w48.cell? ⟨gb104, 3, none⟩ = some (.int .i64 0) := (blk_cell BK104.out 3).trans rfl; have hcz49_4 : w48.cell? ⟨gb104, 4, none⟩ = some (.slice none 0 0) := (blk_cell BK104.out 4).trans rfl; have hfz49_0 := blk_frozen BK104.out 0; have hfz49_1 := blk_frozen BK104.out 1; have hfz49_2 := blk_frozen BK104.out 2; have hfz49_3 := blk_frozen BK104.out 3; have hfz49_4 := blk_frozen BK104.out 4) | ((with_reducible refine gate_callee (f := 25) rfl ?_); refine goesL_ (some 9) rfl rfl Try.func25 (by kernel_rfl) rfl #[.agg #[.int .i64 8, .string (⟨#[]⟩ : ByteArray), .int .i64 0, .int .i64 0, .slice Ao47 y101.length co47]] rfl (by (try simp only [List.map_toArray, List.map_cons, List.map_nil]); first | done | rfl | (simp only [List.length_drop, List.length_take]; rfl)) ?_; (with_reducible refine (scope_Put.calls k 8 (⟨#[]⟩ : ByteArray) 0 0 _ _ y101 t105 t108 _ ?side1 ?side2 A1.out).mono ?_); (case side1 => refine (Kd.R_reads' (e := 40) (base := w.heap.size) (ok := fun k_ => (True ∧ k_ ≠ gb104)) (n := y101.length) (c := co47) ?_).2.2; exact (by (with_reducible repeat (first | apply Kd.R_alloc | apply Kd.R_drewN | apply Kd.R_drew)); exact (Kd.R_mono (Kd.R_far (p := ⟨gb104, 4, none⟩) (Kd.R_far (p := ⟨gb104, 3, none⟩) (Kd.R_far (p := ⟨gb104, 2, none⟩) (Kd.R_far (p := ⟨gb104, 1, none⟩) (Kd.R_far (p := ⟨gb104, 0, none⟩) (Kd.R_mono HO103.out (fun k_ hk => (⟨hk, hk.2⟩ : _ ∧ k_ ≠ gb104))) (fun _ hk => hk.2) (.int .i64 8)) (fun _ hk => hk.2) (.string (⟨#[]⟩ : ByteArray))) (fun _ hk => hk.2) (.int .i64 0)) (fun _ hk => hk.2) (.int .i64 0)) (fun _ hk => hk.2) (.slice Ao47 y101.length co47)) (fun _ h_ => h_.1)))); (case side2 => exact (Kd.R_reads' HO103.out).2.1); rintro e w50 ⟨v106, rfl, ho0, hb⟩; refine ⟨_, rfl, ?_⟩; have n0_ := Aside0.mk (Kd.R_below (by (with_reducible repeat (first | apply Kd.R_alloc | apply Kd.R_drewN | apply Kd.R_drew)); exact (Kd.R_mono (Kd.R_far (p := ⟨gb104, 4, none⟩) (Kd.R_far (p := ⟨gb104, 3, none⟩) (Kd.R_far (p := ⟨gb104, 2, none⟩) (Kd.R_far (p := ⟨gb104, 1, none⟩) (Kd.R_far (p := ⟨gb104, 0, none⟩) (Kd.R_mono HO103.out (fun k_ hk => (⟨hk, hk.2⟩ : _ ∧ k_ ≠ gb104))) (fun _ hk => hk.2) (.int .i64 8)) (fun _ hk => hk.2) (.string (⟨#[]⟩ : ByteArray))) (fun _ hk => hk.2) (.int .i64 0)) (fun _ hk => hk.2) (.int .i64 0)) (fun _ hk => hk.2) (.slice Ao47 y101.length co47)) (fun _ h_ => h_.1))) hb); have n1_ := Aside0.mk (Kd.R_lower ho0 (below_size (by repeat (first | (with_reducible first | exact HB.out | apply below_alloc | apply pw_below_drewN | apply below_drew1 | refine below_set ?_ GE104.out) | exact HB.out)))); have n2_ := Aside0.mk (blk_below (g := gb104) (o := .cells #[.int .i64 8, .string (⟨#[]⟩ : ByteArray), .int .i64 0, .int .i64 0, .slice Ao47 y101.length co47] 40 (0, 0)) (by (with_reducible repeat (first | refine blk_drewN ?_ _ | refine blk_drew ?_ | refine blk_alloc ?_ _)); refine blk_put (cs := #[.int .i64 8, .string (⟨#[]⟩ : ByteArray), .int .i64 0, .int .i64 0, .slice none 0 0]) ?_ 4 _ rfl; (with_reducible repeat (first | refine blk_drewN ?_ _ | refine blk_drew ?_ | refine blk_alloc ?_ _)); refine blk_put (cs := #[.int .i64 8, .string (⟨#[]⟩ : ByteArray), .int .i64 0, .int .i64 0, .slice none 0 0]) ?_ 3 _ rfl; (with_reducible repeat (first | refine blk_drewN ?_ _ | refine blk_drew ?_ | refine blk_alloc ?_ _)); refine blk_put (cs := #[.int .i64 8, .string (⟨#[]⟩ : ByteArray), .int .i64 0, .int .i64 0, .slice none 0 0]) ?_ 2 _ rfl; (with_reducible repeat (first | refine blk_drewN ?_ _ | refine blk_drew ?_ | refine blk_alloc ?_ _)); refine blk_put (cs := #[.int .i64 8, .string (⟨#[]⟩ : ByteArray), .int .i64 0, .int .i64 0, .slice none 0 0]) ?_ 1 _ rfl; (with_reducible repeat (first | refine blk_drewN ?_ _ | refine blk_drew ?_ | refine blk_alloc ?_ _)); refine blk_put (cs := #[.int .i64 0, .string (⟨#[]⟩ : ByteArray), .int .i64 0, .int .i64 0, .slice none 0 0]) ?_ 0 _ rfl; (with_reducible repeat (first | refine blk_drewN ?_ _ | refine blk_drew ?_ | refine blk_alloc ?_ _)); exact BK104.out) hb); have n3_ := Aside0.mk (below_step (by repeat (first | (with_reducible first | exact HB.out | apply below_alloc | apply pw_below_drewN | apply below_drew1 | refine below_set ?_ GE104.out) | exact HB.out)) hb); clear HO103; clear BK104; clear HB; have HO103 := n0_; have HO107 := n1_; have BK104 := n2_; have HB := n3_; clear n0_ n1_ n2_ n3_; (try clear hb); (try clear hb2); (try clear hk); (try clear hi); (try clear ho0)) | ((with_reducible refine gate_callee (f := 27) rfl ?_); refine goesL_ (some 13) rfl rfl Try.func27 (by kernel_rfl) rfl #[.int .i64 t108] rfl (by (try simp only [List.map_toArray, List.map_cons, List.map_nil]); first | done | rfl | (simp only [List.length_drop, List.length_take]; rfl)) ?_; (with_reducible refine (hanaperlaw20_num.calls t108 t109 _ A2.out).mono ?_); rintro e w' ⟨rfl, ⟨nd, rfl⟩⟩; refine ⟨_, rfl, ?_⟩))
  go_ret
  exact ⟨by first | rfl | (simp [errW_none, errW_some] <;> rfl) | (simp [*, errW_none, errW_some] <;> rfl), by repeat (first | (with_reducible first | exact HB.out | apply below_alloc | apply pw_below_drewN | apply below_drew1 | refine below_set ?_ GE104.out) | exact HB.out)⟩

end Go.Proofs.Ytgdpabedlghiaaa.PZ
/- The example of layer 20. -/
namespace Go.Proofs.Ytgdpabedlghiaaa.Scope
set_option linter.unusedVariables false
set_option linter.unusedSimpArgs false
open Go.RowKit Go.Proofs.YtgdpabedlghiaaaW.PrintWords Go.Proofs.Ytgdpabedlghiaaa.PZ Go.Proofs.Ytgdpabedlghiaaa.Aid Go.Proofs.Ytgdpabedlghiaaa.Lo
/-- The page's example: not of the case "a". -/
def kidA : S40 := ⟨2, ⟨#[97]⟩, 0, 0, []⟩
def notA : S40 := ⟨8, ⟨#[]⟩, 0, 0, [kidA]⟩
theorem notA_short : short notA ∧ nodes notA ≤ 60 := by
 simp only [notA, kidA, short, shortL, nodes, nodesL]
 decide
theorem notA_may : mayB notA = true := by decide +kernel
theorem textB_a : textB [97] = [1, 1, 97] := by
 unfold textB numB
 rw [show (([97] : List Int).length : Int).toNat = 1 from rfl, be_pos (by omega), show 1 / 256 = 0 from rfl, be_zero]; rfl
theorem notA_put : putS notA = [8, 2, 1, 1, 97] := by
 have h1 : headS 8 ⟨#[]⟩ 0 0 1 = [] := rfl
 have h2 : headS 2 ⟨#[97]⟩ 0 0 0 = [1, 1, 97] := (show headS 2 ⟨#[97]⟩ 0 0 0 = textB [97] from rfl).trans textB_a
 simp only [notA, kidA, putS, putL, List.length_cons, List.length_nil]
 rw [show (0 + 1 : Nat) = 1 from rfl, h1, h2]
 rfl
theorem notA_b : matchB ⟨#[98]⟩ ⟨#[]⟩ ⟨#[]⟩ 0 notA = true := by decide +kernel
theorem notA_a : matchB ⟨#[97]⟩ ⟨#[]⟩ ⟨#[]⟩ 0 notA = false := by decide +kernel
theorem num_v (a : Int) : hanaperlaw20_num.f a = some a := rfl
theorem live_ev : Ev (fun k => hanaperlaw20_live.f k) true := by
 unfold hanaperlaw20_live.f
 refine bindSome rfl ?_
 have hp := Put_ev notA notA_short.1 notA_short.2
 rw [if_pos notA_may, notA_put] at hp
 refine evBind hp (bindSome (num_v 0) (pos rfl (evBind (same_ev [8, 2, 1, 1, 97] [8, 2, 1, 1, 97] (by decide)) (pos (decide_eq_true rfl) ?_))))
 refine bindSome (show scope_Match.f 8 ⟨#[]⟩ 0 0 [kidA] ⟨#[]⟩ ⟨#[98]⟩ ⟨#[]⟩ ⟨#[]⟩ 0 0 = some true from congrArg some notA_b) (pos rfl ?_)
 exact bindSome (show scope_Match.f 8 ⟨#[]⟩ 0 0 [kidA] ⟨#[]⟩ ⟨#[97]⟩ ⟨#[]⟩ ⟨#[]⟩ 0 0 = some false from congrArg some notA_a) (now rfl)
end Go.Proofs.Ytgdpabedlghiaaa.Scope
/- What an argument reads as, opened kind by kind: out of the form's reading a value of the kind, whose cells it has. -/
namespace Go.Proofs.Ytgdpabedlghiaaa.Open
open Go.Proofs.Ytgdpabedlghiaaa.Base Go.RowKit Go.Proofs.YtgdpabedlghiaaaW.PrintWords Go.Proofs.YtgdpabedlghiaaaW.PrintLast Go.Proofs.YtgdpabedlghiaaaW.PrintMore

/-- With so much fuel, what type t reads as is a value of kind d. -/
def OpensN (P : Program) (n : Nat) (t : TypeId) {α : Type} (d : Kd α) (ok : α → Prop) : Prop :=
  ∀ (H : Type) (enc : TypeId × Value → H) (w : World) (base : Nat) (held : Bool) (cs : List Value) (x : DataW H × List MemPlace), DataW.trod enc P w base (fun _ => true) held n t cs = some x → ∃ v, d.K w v cs ∧ ok v
def Opens (P : Program) (t : TypeId) {α : Type} (d : Kd α) (ok : α → Prop) : Prop := ∀ n, OpensN P n t d ok

theorem opens_int {P : Program} {t : TypeId} {k : IntKind} (ht : P.underlying t = some (.int k)) : Opens P t (Kd.int k) (fun v => (Lit.int k v).wf = true) := by
  intro n H enc w base held cs x h
  obtain ⟨v, rfl, hw, _⟩ : ∃ v, cs = [.int k v] ∧ (Lit.int k v).wf = true ∧ True := by
    cases n with
    | zero => simp [DataW.trod] at h
    | succ n =>
      unfold DataW.trod at h
      rw [ht] at h
      split at h <;> simp_all
  exact ⟨v, rfl, hw⟩
theorem opens_string {P : Program} {t : TypeId} (ht : P.underlying t = some .string) : Opens P t Kd.string (fun s => s.size ≤ maxLen) := by
  intro n H enc w base held cs x h
  obtain ⟨v, rfl, hv⟩ : ∃ v, cs = [.string v] ∧ v.size ≤ maxLen := by
    cases n with
    | zero => simp [DataW.trod] at h
    | succ n =>
      unfold DataW.trod at h
      rw [ht] at h
      split at h <;> simp_all
  exact ⟨v, rfl, hv⟩
theorem choose_list {α : Type} {p : Nat → α → Prop} : ∀ n, (∀ i, i < n → ∃ v, p i v) → ∃ xs : List α, xs.length = n ∧ ∀ i v, xs[i]? = some v → p i v := by
  intro n
  induction n with
  | zero => intro _; exact ⟨[], rfl, fun i v h => by simp at h⟩
  | succ n ih =>
    intro h
    obtain ⟨xs, hl, hx⟩ := ih (fun i hi => h i (by omega))
    obtain ⟨v, hv⟩ := h n (by omega)
    refine ⟨xs ++ [v], by simp [hl], fun i u hu => ?_⟩
    rcases Nat.lt_or_ge i xs.length with hi | hi
    · rw [List.getElem?_append_left hi] at hu; exact hx i u hu
    · have hi' : i = n := by
        have := (List.getElem?_eq_some_iff.1 hu).1
        rw [List.length_append, List.length_singleton] at this
        omega
      subst hi'
      have : v = u := by rw [← hl] at hu; simpa using hu
      subst this
      exact hv
theorem opensN_slice {P : Program} {n : Nat} {t e : TypeId} {α : Type} {d : Kd α} {ok : α → Prop} (ht : P.underlying t = some (.slice e)) (hc : P.cellsOf e = d.sz) (hd : OpensN P n e d ok) : OpensN P (n + 1) t (Kd.slice e d) (fun xs => ∀ x ∈ xs, ok x) := by
  intro H enc w base held cs x h
  rcases DataW.trod_slice ht h with ⟨rfl, _⟩ | ⟨a, len, cap, elems, rest, m, hm, rfl, _, hb, hl, hmx, hel, hi, _⟩
  · exact ⟨[], ⟨none, 0, rfl, by simp, Kd.C_nil _ _⟩, fun x hx => by cases hx⟩
  · have hmn : m = n := by omega
    subst hmn
    obtain ⟨xs, hxl, hxs⟩ := choose_list (α := α) (p := fun i v => ok v ∧ ∃ c, c.length = d.sz ∧ d.K w v c ∧ ∀ j u, c[j]? = some u → w.cell? (a.add (i * d.sz + j)) = some u) len (fun i hil => by
      have h1 := hi i hil
      rw [List.getElem?_eq_getElem (by omega)] at h1
      obtain ⟨cs', h2, h3⟩ := Option.bind_eq_some_iff.1 h1
      obtain ⟨v, hv, hok⟩ := hd _ _ _ _ _ _ _ h3
      obtain ⟨_, h4, h5⟩ := World.cells?_some h2
      refine ⟨v, hok, cs', by rw [h4, hc], hv, fun j u hu => ?_⟩
      have hj : j < cs'.length := (List.getElem?_eq_some_iff.1 hu).1
      have h6 := h5 j (by omega)
      rw [hu, hc] at h6
      rw [← h6, Addr.add_add])
    refine ⟨xs, ⟨some a, cap, by rw [hxl], by omega, ?_⟩, fun x hx => ?_⟩
    · refine ⟨rfl, ?_, fun _ => ⟨a, rfl, fun j p hj => ?_⟩⟩
      · rw [hxl]; simp only [maxLen] at hmx; omega
      · exact (hxs j p hj).2
    · obtain ⟨i, hi, rfl⟩ := List.mem_iff_getElem.1 hx
      exact (hxs i _ (List.getElem?_eq_getElem hi)).1
theorem opens_slice {P : Program} {t e : TypeId} {α : Type} {d : Kd α} {ok : α → Prop} (ht : P.underlying t = some (.slice e)) (hc : P.cellsOf e = d.sz) (hd : Opens P e d ok) : Opens P t (Kd.slice e d) (fun xs => ∀ x ∈ xs, ok x) := by
  intro n
  cases n with
  | zero => intro H enc w base held cs x h; simp [DataW.trod] at h
  | succ n => exact opensN_slice ht hc (hd n)
/-- The fields of a struct from offset o on. -/
def OpensF (P : Program) (n : Nat) (fs : List Field) (o : Nat) {α : Type} (d : Kd α) (ok : α → Prop) : Prop :=
  ∀ (H : Type) (enc : TypeId × Value → H) (w : World) (base : Nat) (held : Bool) (cs : List Value) (xs : List (DataW H × List MemPlace)),
    cs.length = o + d.sz → fs.mapM (fun f => DataW.trod enc P w base (fun _ => true) held n f.type ((cs.drop f.offset).take (P.cellsOf f.type))) = some xs → ∃ v, d.K w v (cs.drop o) ∧ ok v
theorem opensF_one {P : Program} {n : Nat} {f : Field} {o : Nat} {α : Type} {d : Kd α} {ok : α → Prop} (ho : f.offset = o) (hc : P.cellsOf f.type = d.sz) (hd : OpensN P n f.type d ok) : OpensF P n [f] o d ok := by
  intro H enc w base held cs xs hl h
  have h1 := mapM_some_get h 0 f rfl
  cases hx : xs[0]? with
  | none => rw [List.getElem?_eq_none_iff] at hx; have := mapM_some_length h; simp at this; omega
  | some y =>
    rw [hx, ho, List.take_of_length_le (by rw [List.length_drop]; omega)] at h1
    exact hd _ _ _ _ _ _ _ h1
theorem opensF_cons {P : Program} {n : Nat} {f : Field} {fs : List Field} {o : Nat} {α β : Type} {d : Kd α} {d2 : Kd β} {ok : α → Prop} {ok2 : β → Prop} (ho : f.offset = o) (hc : P.cellsOf f.type = d.sz) (hd : OpensN P n f.type d ok) (hr : OpensF P n fs (o + d.sz) d2 ok2) : OpensF P n (f :: fs) o (Kd.pair d d2) (fun v => ok v.1 ∧ ok2 v.2) := by
  intro H enc w base held cs xs hl h
  rw [List.mapM_cons] at h
  obtain ⟨y, h1, h2⟩ := Option.bind_eq_some_iff.1 h
  obtain ⟨ys, h3, h4⟩ := Option.bind_eq_some_iff.1 h2
  have hsz : (Kd.pair d d2).sz = d.sz + d2.sz := rfl
  rw [ho, hc] at h1
  obtain ⟨v1, k1, o1⟩ := hd _ _ _ _ _ _ _ h1
  obtain ⟨v2, k2, o2⟩ := hr _ _ _ _ _ _ _ (by rw [hl, hsz]; omega) h3
  refine ⟨(v1, v2), ⟨(cs.drop o).take d.sz, cs.drop (o + d.sz), ?_, k1, k2⟩, o1, o2⟩
  rw [← List.drop_drop, List.take_append_drop]
theorem opensN_struct {P : Program} {n : Nat} {t : TypeId} {fs : Array Field} {α : Type} {d : Kd α} {ok : α → Prop} (ht : P.underlying t = some (.struct fs)) (hc : P.cellsOf t = d.sz) (hd : OpensF P n fs.toList 0 d ok) : OpensN P (n + 1) t d ok := by
  intro H enc w base held cs x h
  unfold DataW.trod at h
  rw [ht] at h
  have h' : (if cs.length = P.cellsOf t then (fs.toList.mapM fun f => DataW.trod enc P w base (fun _ => true) held n f.type ((cs.drop f.offset).take (P.cellsOf f.type))).map fun xs => (DataW.agg (xs.map (·.1)), xs.flatMap (·.2)) else none) = some x := by
    revert h
    split <;> simp_all
  split at h'
  · next hl =>
    obtain ⟨xs, h1, _⟩ := Option.map_eq_some_iff.1 h'
    have := hd _ _ _ _ _ _ _ (by rw [hl, hc]; omega) h1
    simpa using this
  · cases h'
/-- An argument, opened. -/
theorem Opens.arg {P : Program} {t : TypeId} {α : Type} {d : Kd α} {ok : α → Prop} (h : Opens P t d ok) {H : Type} {enc : TypeId × Value → H} {w : World} {base : Nat} {held : Bool} {v : Value} {D : DataW H} {ps : List MemPlace} (ht : DataW.Trod enc P w base (fun _ => true) held t v D ps) : ∃ x, d.K w x v.cells.toList ∧ ok x := by
  obtain ⟨n, hn⟩ := ht
  exact h n _ _ _ _ _ _ _ hn
end Go.Proofs.Ytgdpabedlghiaaa.Open
/- An argument that is a scope. -/
namespace Go.Proofs.Ytgdpabedlghiaaa.Scope
set_option linter.unusedVariables false
set_option linter.unusedSimpArgs false
open Go.RowKit Go.Proofs.YtgdpabedlghiaaaW.PrintWords Go.Proofs.Ytgdpabedlghiaaa.PZ
/-- An argument that is a scope, opened. -/
theorem opensN_scope : ∀ n, Open.OpensN Try.prog n 40 k40 (fun _ => True) := by
 intro n
 induction n using Nat.strongRecOn with
 | _ n ih =>
 cases n with
 | zero => intro H enc w base held cs x h; simp [DataW.trod] at h
 | succ n =>
  have hs : Open.OpensN Try.prog n 38 (Kd.slice 40 k40) (fun _ => True) := by
   cases n with
   | zero => intro H enc w base held cs x h; simp [DataW.trod] at h
   | succ n =>
    intro H enc w base held cs x h
    obtain ⟨v, hv, _⟩ := Open.opensN_slice Try.underlying38 (by kernel_rfl) (ih n (by omega)) H enc w base held cs x h
    exact ⟨v, hv, trivial⟩
  intro H enc w base held cs x h
  obtain ⟨⟨op, nm, fr, to_, kids⟩, ⟨_, _, e0, rfl, _, _, e1, rfl, _, _, e2, rfl, _, _, e3, rfl, ⟨A, c, rfl, hc, hr⟩⟩, _⟩ := Open.opensN_struct Try.underlying40 (by kernel_rfl) (Open.opensF_cons rfl (by kernel_rfl) (Open.opens_int Try.underlying3 n) (Open.opensF_cons rfl (by kernel_rfl) (Open.opens_string Try.underlying9 n) (Open.opensF_cons rfl (by kernel_rfl) (Open.opens_int Try.underlying3 n) (Open.opensF_cons rfl (by kernel_rfl) (Open.opens_int Try.underlying3 n) (Open.opensF_one rfl (by kernel_rfl) hs))))) H enc w base held cs x h
  subst e3 e2 e1
  rw [e0]
  exact ⟨⟨op, nm, fr, to_, kids⟩, k40_mk w ⟨op, nm, fr, to_, kids⟩ hc hr, trivial⟩
theorem opens_scope : Open.Opens Try.prog 40 k40 (fun _ => True) := opensN_scope
end Go.Proofs.Ytgdpabedlghiaaa.Scope
/- What ScopeGets and ScopeBack share. -/
namespace Go.Proofs.Ytgdpabedlghiaaa.Scope
set_option linter.unusedVariables false
set_option linter.unusedSimpArgs false
open Go.RowKit Go.Proofs.YtgdpabedlghiaaaW.PrintWords Go.Proofs.Ytgdpabedlghiaaa.PZ Go.Proofs.Ytgdpabedlghiaaa.Aid Go.Proofs.Ytgdpabedlghiaaa.TlvPlain Go.Proofs.Ytgdpabedlghiaaa.Lo Go.Proofs.Ytgdpabedlghiaaa.RdPlain
theorem get_read {b : List Int} {x : S40} (h : getSc b = (x, 0)) : readS 8 (some b) = some (x, []) := by
 unfold getSc at h
 cases hr : readS 8 (some b) with
 | none => rw [hr] at h; simp at h
 | some p =>
  obtain ⟨y, r⟩ := p
  rw [hr] at h
  cases r with
  | cons c r => simp at h
  | nil =>
   dsimp only at h
   split at h
   ·simp only [Prod.mk.injEq] at h
    rw [h.1]
   ·simp at h
theorem get_or (b : List Int) : (getSc b).2 = 0 ∨ getSc b = (z40s, 2) := by
 unfold getSc
 cases hr : readS 8 (some b) with
 | none => exact .inr rfl
 | some p =>
  obtain ⟨y, r⟩ := p
  cases r with
  | cons c r => exact .inr rfl
  | nil =>
   dsimp only
   split
   ·exact .inl rfl
   ·exact .inr rfl
theorem get_nodes {b : List Int} (hu : U8 b) (hl : b.length ≤ 1000000) : nodes (getSc b).1 ≤ 1000000 := by
 rcases get_or b with h | h
 ·have hr := get_read (b := b) (x := (getSc b).1) (by rw [← h])
  exact Nat.le_trans (read_nodes hu hr) hl
 ·rw [h]
  unfold z40s
  rw [nodes, nodesL]
  decide
theorem getf {b : List Int} (hu : U8 b) (hl : b.length ≤ 1000000) : scope_Get.f b = some ((getSc b).1.f0, (getSc b).1.f1, (getSc b).1.f2, (getSc b).1.f3, (getSc b).1.f4, (getSc b).2) := by
 unfold scope_Get.f
 rw [if_pos (by simp only [Bool.and_eq_true, decide_eq_true_eq]; exact ⟨hl, u8S_iff.2 hu⟩)]
theorem rgetf {b : List Int} (hu : U8 b) (hl : b.length ≤ 1000000) : hanaperref20_Get.f b = some ((getSc b).1.f0, (getSc b).1.f1, (getSc b).1.f2, (getSc b).1.f3, (getSc b).1.f4, (getSc b).2) := by
 unfold hanaperref20_Get.f
 rw [if_pos (by simp only [Bool.and_eq_true, decide_eq_true_eq]; exact ⟨hl, u8S_iff.2 hu⟩)]
theorem samef (x y : S40) : scope_Same.f x.f0 x.f1 x.f2 x.f3 x.f4 y.f0 y.f1 y.f2 y.f3 y.f4 = some (eqS x y) := by
 obtain ⟨_, _, _, _, _⟩ := x
 obtain ⟨_, _, _, _, _⟩ := y
 rfl
theorem u8_wf {l : List Int} (h : ∀ y ∈ l, (Lit.int .u8 y).wf = true) : U8 l := fun y hy => by
 have := h y hy
 simp only [Lit.wf, IntKind.min, IntKind.max, IntKind.signed, IntKind.bits, Bool.and_eq_true, decide_eq_true_eq] at this
 simp at this
 omega
end Go.Proofs.Ytgdpabedlghiaaa.Scope
