/- Own and printed texts, laid together. -/
import Derived.Test.YtobljmgoengofaaPlGF
import Derived.Laws.EntriesVeiled
import Derived.Test.YtobljmgoengofaaPlGC
import Derived.Shelf.GgClosure.StringsIndexFunc
import Derived.Deep.LoopGhost
-- printed for this claim by a program (pall.sh)
-- mended by fixpz.py
namespace Go.Proofs.Ytobljmgoengofaa.PZ
open Go.RowKit Go.Proofs.YtobljmgoengofaaW.PrintWords Go.Proofs.YtobljmgoengofaaW.PrintLast Go.Proofs.YtobljmgoengofaaW.PrintMore
attribute [local go_sem] max2_int min2_int max_two min_two max_three min_three max_four min_four   -- for this text's walks alone
set_option linter.unusedVariables false
set_option linter.unusedSimpArgs false

/-! ### scope_kids: function 93 -/
def scope_kids.f (a0 : Int) : Option (Int × Int) := if a0 = 8 then (some (1, 1)) else (if a0 = 6 then (some (2, 24)) else (if a0 = 7 then (some (2, 24)) else (some (0, 0))))
set_option maxHeartbeats 8000000 in
set_option maxRecDepth 100000 in
theorem scope_kids.calls (a0 : Int) (r1 : Int) (r2 : Int) (w : World) (h : scope_kids.f a0 = some (r1, r2)) :
  Calls Try.prog 93 #[.int .i64 a0] w fun e w' => e = .returned (.tuple #[.int .i64 r1, .int .i64 r2]) ∧ Drawn0 w w' := by
 have H : (if a0 = 8 then (some (1, 1)) else (if a0 = 6 then (some (2, 24)) else (if a0 = 7 then (some (2, 24)) else (some (0, 0))))) = some (r1, r2) := h
 clear h
 by_cases c2 : a0 = 8
 ·rw [if_pos c2] at H
  have c2b0 : (a0 == 8) = true := beq_iff_eq.mpr c2
  have c2b1 : (a0 != 8) = false := bne_eq_false_iff_eq.mpr c2
  clear c2
  simp only [Option.some.injEq, Prod.mk.injEq] at H
  obtain ⟨rfl, rfl⟩ := H
  go_enter Try.func93, Try.ntmps93
  go_wp2
  go_ret2
  exact ⟨by first | rfl | (simp; done) | (simp [*]; done), by repeat (first | exact Drawn0.refl _ | apply Drawn0.step)⟩
 ·rw [if_neg c2] at H
  have c2b0 : (a0 == 8) = false := beq_eq_false_iff_ne.mpr c2
  have c2b1 : (a0 != 8) = true := bne_iff_ne.mpr c2
  by_cases c3 : a0 = 6
  ·rw [if_pos c3] at H
   have c3b0 : (a0 == 6) = true := beq_iff_eq.mpr c3
   have c3b1 : (a0 != 6) = false := bne_eq_false_iff_eq.mpr c3
   clear c3
   simp only [Option.some.injEq, Prod.mk.injEq] at H
   obtain ⟨rfl, rfl⟩ := H
   go_enter Try.func93, Try.ntmps93
   go_wp2
   go_ret2
   exact ⟨by first | rfl | (simp; done) | (simp [*]; done), by repeat (first | exact Drawn0.refl _ | apply Drawn0.step)⟩
  ·rw [if_neg c3] at H
   have c3b0 : (a0 == 6) = false := beq_eq_false_iff_ne.mpr c3
   have c3b1 : (a0 != 6) = true := bne_iff_ne.mpr c3
   by_cases c4 : a0 = 7
   ·rw [if_pos c4] at H
    have c4b0 : (a0 == 7) = true := beq_iff_eq.mpr c4
    have c4b1 : (a0 != 7) = false := bne_eq_false_iff_eq.mpr c4
    clear c4
    simp only [Option.some.injEq, Prod.mk.injEq] at H
    obtain ⟨rfl, rfl⟩ := H
    go_enter Try.func93, Try.ntmps93
    go_wp2
    go_ret2
    exact ⟨by first | rfl | (simp; done) | (simp [*]; done), by repeat (first | exact Drawn0.refl _ | apply Drawn0.step)⟩
   ·rw [if_neg c4] at H
    have c4b0 : (a0 == 7) = false := beq_eq_false_iff_ne.mpr c4
    have c4b1 : (a0 != 7) = true := bne_iff_ne.mpr c4
    simp only [Option.some.injEq, Prod.mk.injEq] at H
    obtain ⟨rfl, rfl⟩ := H
    go_enter Try.func93, Try.ntmps93
    go_wp2
    go_ret2
    exact ⟨by first | rfl | (simp; done) | (simp [*]; done), by repeat (first | exact Drawn0.refl _ | apply Drawn0.step)⟩

end Go.Proofs.Ytobljmgoengofaa.PZ
/- slices.IndexFunc, ContainsFunc over scopes: walked once for each function value (printed by gen_scope.py). -/
namespace Go.Proofs.Ytobljmgoengofaa.Scope
set_option linter.unusedVariables false
set_option linter.unusedSimpArgs false
open Go.RowKit Go.Proofs.YtobljmgoengofaaW.PrintWords Go.Proofs.YtobljmgoengofaaW.PrintLast Go.Proofs.YtobljmgoengofaaW.PrintMore Go.Proofs.Ytobljmgoengofaa.PZ
/-- The first of which it is said, its place; and what the asking leaves. -/
def runIdx {α σ : Type} (step : α → σ → Bool × σ) : List α → Nat → σ → Int × σ
  | [], _, s => (-1, s)
  | x :: xs, i, s => if (step x s).1 = true then ((i : Int), (step x s).2) else runIdx step xs (i + 1) (step x s).2
/-- Is it said of any? -/
def runAny {α σ : Type} (step : α → σ → Bool × σ) : List α → σ → Bool × σ
  | [], s => (false, s)
  | x :: xs, s => if (step x s).1 = true then (true, (step x s).2) else runAny step xs (step x s).2
theorem runIdx_any {α σ : Type} (step : α → σ → Bool × σ) : ∀ (xs : List α) (i : Nat) (s : σ), decide ((runIdx step xs i s).1 ≥ 0) = (runAny step xs s).1 ∧ (runIdx step xs i s).2 = (runAny step xs s).2
  | [], _, _ => ⟨rfl, rfl⟩
  | x :: xs, i, s => by
    unfold runIdx runAny
    by_cases h : (step x s).1 = true
    · rw [if_pos h, if_pos h]
      exact ⟨decide_eq_true (by omega), rfl⟩
    · rw [if_neg h, if_neg h]
      exact runIdx_any step xs (i + 1) _
set_option maxHeartbeats 2000000 in
set_option maxRecDepth 100000 in
theorem idx_may {σ : Type} (g0 g1 : Nat) (step : S75 → σ → Bool × σ) (Inv : σ → World → Prop) (A : Option Addr) (xs : List S75) (c : Nat) (v0 : World) (hrow : Kd.C k75 v0 A xs.length xs) (hbase : ∀ s W, Inv s W → Below v0.heap.size v0 W)
    (hp : ∀ x ∈ xs, ∀ s W A4 c4, Inv s W → Kd.C k75 v0 A4 x.f4.length x.f4 → x.f4.length ≤ c4 → Calls Try.prog 96 #[.agg #[.int .i64 x.f0, .string x.f1, .int .i64 x.f2, .int .i64 x.f3, .slice A4 x.f4.length c4], .pointer (some ⟨g0, 0, none⟩), .pointer (some ⟨g1, 0, none⟩)] W fun e w' => e = .returned (.bool (step x s).1) ∧ Inv (step x s).2 w')
    (s0 : σ) (w : World) (h0 : Inv s0 w) :
    Calls Try.prog 99 #[.slice A xs.length c, .func (.func 96) #[] #[.pointer (some ⟨g0, 0, none⟩), .pointer (some ⟨g1, 0, none⟩)]] w fun e w' => e = .returned (.int .i64 (runIdx step xs 0 s0).1) ∧ Inv (runIdx step xs 0 s0).2 w' := by
  have HR := Aside0.mk hrow
  have HP := Aside0.mk hp
  have H0 := Aside0.mk h0
  have HM := Aside0.mk hrow.2.1
  have HBS := Aside0.mk hbase
  have hu38 := Try.underlying73
  have hu40 := Try.underlying75
  clear hrow hp h0 hbase
  go_enter Try.func99, Try.ntmps99
  go_wp2
  go_loopg [8] xs.length (fun gf s8 wx => ∃ (i : Nat) (s : σ), s8 = .int .i64 (i : Int) ∧ i + gf = xs.length ∧ Inv s wx ∧ runIdx step (xs.drop i) i s = runIdx step xs 0 s0)
  case atStart => exact ⟨0, s0, rfl, by omega, H0.out, rfl⟩
  case round =>
    obtain ⟨i, s, rfl, hi, hinv, hrun⟩ := hrel
    have HI := Aside0.mk hinv
    have HU := Aside0.mk hrun
    have HG := Aside0.mk hi
    clear hinv hrun hi
    by_cases hlt : i < xs.length
    · have hl1 : decide ((i : Int) < (xs.length : Int)) = true := decide_eq_true (by omega)
      have hw1 : wrap64 ((i : Int) + 1) = ((i + 1 : Nat) : Int) := by rw [Aid.w64 (by omega) (by have := HM.out; omega)]; omega
      have HX := Aside0.mk (List.getElem_mem hlt)
      obtain ⟨ad, A4, c4, rfl, hx0, hx1, hx2, hx3, hx4, hl4, hi4⟩ := at_T75 HR.out (i : Int) (by omega) (by omega)
      have hrd : rd_T75 xs (i : Int) = xs[i] := by simp [rd_T75, List.getD_eq_getElem?_getD, List.getElem?_eq_getElem hlt]
      have hbm := HBS.out s wr HI.out
      replace hx0 := (hbm.cell (World.block_lt_of_cell? _ _ hx0)).trans hx0
      replace hx1 := (hbm.cell (World.block_lt_of_cell? _ _ hx1)).trans hx1
      replace hx2 := (hbm.cell (World.block_lt_of_cell? _ _ hx2)).trans hx2
      replace hx3 := (hbm.cell (World.block_lt_of_cell? _ _ hx3)).trans hx3
      replace hx4 := (hbm.cell (World.block_lt_of_cell? _ _ hx4)).trans hx4
      clear hbm
      rw [hrd] at hx0 hx1 hx2 hx3 hx4 hl4 hi4
      simp only [Int.toNat_natCast] at hx0 hx1 hx2 hx3 hx4
      have HC := Aside0.mk (HP.out xs[i] HX.out s wr A4 c4 HI.out hi4 hl4)
      have HD := Aside0.mk (List.drop_eq_getElem_cons hlt)
      obtain ⟨x, hx⟩ : ∃ x, xs[i] = x := ⟨_, rfl⟩
      rw [hx] at hx0 hx1 hx2 hx3 hx4 HC HD
      rw [HD.out, runIdx] at HU
      clear hx hrd hl4 hi4 HX HD
      have p1 : (0 : Int) ≤ (i : Int) := by omega
      have p2 : (i : Int) < (xs.length : Int) := by omega
      obtain ⟨b, hb⟩ : ∃ b, (step x s).1 = b := ⟨_, rfl⟩
      rw [hb] at HC HU
      clear hb
      cases b with
      | true =>
        rw [if_pos rfl] at HU
        go_wp2_with (go_at_call 96; refine HC.out.mono ?_; rintro e w' ⟨rfl, hv⟩; have HV := Aside0.mk hv; clear hv)
        go_ret
        rw [← HU.out]
        exact ⟨rfl, HV.out⟩
      | false =>
        rw [if_neg (by decide)] at HU
        go_wp2_with (go_at_call 96; refine HC.out.mono ?_; rintro e w' ⟨rfl, hv⟩; have HV := Aside0.mk hv; clear hv)
        go_roundg (xs.length - (i + 1))
        case measure => have := HG.out; omega
        case rel => exact ⟨i + 1, (step x s).2, by first | rfl | rw [hw1], by omega, HV.out, HU.out⟩
    · have hl1 : decide ((i : Int) < (xs.length : Int)) = false := decide_eq_false (by omega)
      have HE := Aside0.mk (List.drop_eq_nil_of_le (show xs.length ≤ i by omega))
      rw [HE.out, runIdx] at HU
      go_wp2
      go_ret
      rw [← HU.out]
      exact ⟨rfl, HI.out⟩
set_option maxHeartbeats 1000000 in
theorem any_may {σ : Type} (g0 g1 : Nat) (step : S75 → σ → Bool × σ) (Inv : σ → World → Prop) (A : Option Addr) (xs : List S75) (c : Nat) (v0 : World) (hrow : Kd.C k75 v0 A xs.length xs) (hbase : ∀ s W, Inv s W → Below v0.heap.size v0 W)
    (hp : ∀ x ∈ xs, ∀ s W A4 c4, Inv s W → Kd.C k75 v0 A4 x.f4.length x.f4 → x.f4.length ≤ c4 → Calls Try.prog 96 #[.agg #[.int .i64 x.f0, .string x.f1, .int .i64 x.f2, .int .i64 x.f3, .slice A4 x.f4.length c4], .pointer (some ⟨g0, 0, none⟩), .pointer (some ⟨g1, 0, none⟩)] W fun e w' => e = .returned (.bool (step x s).1) ∧ Inv (step x s).2 w')
    (s0 : σ) (w : World) (h0 : Inv s0 w) :
    Calls Try.prog 95 #[.slice A xs.length c, .func (.func 96) #[] #[.pointer (some ⟨g0, 0, none⟩), .pointer (some ⟨g1, 0, none⟩)]] w fun e w' => e = .returned (.bool (runAny step xs s0).1) ∧ Inv (runAny step xs s0).2 w' := by
  have HC := Aside0.mk (idx_may g0 g1 step Inv A xs c v0 hrow hbase hp s0 w h0)
  have HB := Aside0.mk (runIdx_any step xs 0 s0)
  obtain ⟨r, hr⟩ : ∃ r, runIdx step xs 0 s0 = r := ⟨_, rfl⟩
  rw [hr] at HC HB
  rw [← HB.out.1, ← HB.out.2]
  clear hr hrow hp h0 HB hbase
  obtain ⟨j, s⟩ := r
  obtain ⟨b, hb⟩ : ∃ b, decide (j ≥ 0) = b := ⟨_, rfl⟩
  have hb2 : decide ((0 : Int) ≤ j) = b := hb
  rw [hb]
  go_enter Try.func95, Try.ntmps95
  go_wp2_with (go_at_call 99; refine HC.out.mono ?_; rintro e w' ⟨rfl, hv⟩; have HV := Aside0.mk hv; clear hv)
  go_ret
  exact ⟨rfl, HV.out⟩
end Go.Proofs.Ytobljmgoengofaa.Scope
/- scope.Match walked (printed by gen_hscope.py). -/
namespace Go.Proofs.Ytobljmgoengofaa.Scope
set_option linter.unusedVariables false
set_option linter.unusedSimpArgs false
open Go.RowKit Go.Proofs.YtobljmgoengofaaW.PrintWords Go.Proofs.YtobljmgoengofaaW.PrintLast Go.Proofs.YtobljmgoengofaaW.PrintMore Go.Proofs.Ytobljmgoengofaa.PZ
/-- A block's cells. -/
def Blk (w : World) (g T : Nat) (cs : Array Value) : Prop := w.heap[g]? = some (.cells cs T (0, 0))
theorem Blk.below {w w' : World} {g T : Nat} {cs : Array Value} (h : Blk w g T cs) (hb : Below w.heap.size w w') : Blk w' g T cs := blk_below h hb
theorem Blk.alloc {w : World} {g T : Nat} {cs : Array Value} (h : Blk w g T cs) (o : Obj) : Blk (w.alloc o) g T cs := blk_alloc h o
theorem Blk.lt {w : World} {g T : Nat} {cs : Array Value} (h : Blk w g T cs) : g < w.heap.size := by
  unfold Blk at h
  exact (Array.getElem?_eq_some_iff.1 h).1
theorem Blk.cell {w : World} {g T : Nat} {cs : Array Value} (h : Blk w g T cs) (j : Nat) : w.cell? ⟨g, j, none⟩ = cs[j]? := blk_cell h j
theorem blk3 (w : World) (a b o : Obj) : (((w.alloc a).alloc b).alloc o).heap[w.heap.size + 1 + 1]? = some o := by
  have h := blk_new ((w.alloc a).alloc b) o
  simpa using h
theorem blk2 (w : World) (a o : Obj) : ((w.alloc a).alloc o).heap[w.heap.size + 1]? = some o := by
  have h := blk_new (w.alloc a) o
  simpa using h
theorem kid_lt {x k : S75} (h : k ∈ x.f4) : SizeOf.sizeOf k < SizeOf.sizeOf x := by
  have h1 := List.sizeOf_lt_of_mem h
  cases x
  simp at h1 ⊢
  omega
mutual
/-- Which records a scope matches. -/
def matchB (q1 q2 q3 : ByteArray) (t : Int) : S75 → Bool
  | ⟨op, nm, fr, to_, kids⟩ => if op = 1 then true else if op = 2 then q1.toList == nm.toList else if op = 3 then q2.toList == nm.toList else if op = 4 then q3.toList == nm.toList else if op = 5 then decide (fr ≤ t) && decide (t ≤ to_) else if op = 7 then anyB q1 q2 q3 t kids else if op = 6 then !(exB q1 q2 q3 t kids) else if op = 8 then notB q1 q2 q3 t kids else false
def anyB (q1 q2 q3 : ByteArray) (t : Int) : List S75 → Bool
  | [] => false
  | k :: ks => matchB q1 q2 q3 t k || anyB q1 q2 q3 t ks
def exB (q1 q2 q3 : ByteArray) (t : Int) : List S75 → Bool
  | [] => false
  | k :: ks => !matchB q1 q2 q3 t k || exB q1 q2 q3 t ks
def notB (q1 q2 q3 : ByteArray) (t : Int) : List S75 → Bool
  | [] => true
  | k :: _ => !matchB q1 q2 q3 t k
end
end Go.Proofs.Ytobljmgoengofaa.Scope
-- printed for this claim by a program (pall.sh)
-- mended by fixpz.py
namespace Go.Proofs.Ytobljmgoengofaa.PZ
open Go.RowKit Go.Proofs.YtobljmgoengofaaW.PrintWords Go.Proofs.YtobljmgoengofaaW.PrintLast Go.Proofs.YtobljmgoengofaaW.PrintMore
attribute [local go_sem] max2_int min2_int max_two min_two max_three min_three max_four min_four   -- for this text's walks alone
set_option linter.unusedVariables false
set_option linter.unusedSimpArgs false

/-! ### scope_named: function 89 -/
def scope_named.f (a0 : Int) : Option (Bool) := if a0 = 2 then (some true) else (if a0 = 3 then (some true) else (if a0 = 4 then (some true) else (some false)))
set_option maxHeartbeats 8000000 in
set_option maxRecDepth 100000 in
theorem scope_named.calls (a0 : Int) (r : Bool) (w : World) (h : scope_named.f a0 = some r) :
  Calls Try.prog 89 #[.int .i64 a0] w fun e w' => e = .returned (.bool r) ∧ Drawn0 w w' := by
 have H : (if a0 = 2 then (some true) else (if a0 = 3 then (some true) else (if a0 = 4 then (some true) else (some false)))) = some r := h
 clear h
 by_cases c2 : a0 = 2
 ·rw [if_pos c2] at H
  have c2b0 : (a0 == 2) = true := beq_iff_eq.mpr c2
  have c2b1 : (a0 != 2) = false := bne_eq_false_iff_eq.mpr c2
  clear c2
  obtain rfl := Option.some.inj H
  go_enter Try.func89, Try.ntmps89
  go_wp2
  go_ret
  exact ⟨by first | rfl | (simp; done) | (simp [*]; done), by repeat (first | exact Drawn0.refl _ | apply Drawn0.step)⟩
 ·rw [if_neg c2] at H
  have c2b0 : (a0 == 2) = false := beq_eq_false_iff_ne.mpr c2
  have c2b1 : (a0 != 2) = true := bne_iff_ne.mpr c2
  by_cases c3 : a0 = 3
  ·rw [if_pos c3] at H
   have c3b0 : (a0 == 3) = true := beq_iff_eq.mpr c3
   have c3b1 : (a0 != 3) = false := bne_eq_false_iff_eq.mpr c3
   clear c3
   obtain rfl := Option.some.inj H
   go_enter Try.func89, Try.ntmps89
   go_wp2
   go_ret
   exact ⟨by first | rfl | (simp; done) | (simp [*]; done), by repeat (first | exact Drawn0.refl _ | apply Drawn0.step)⟩
  ·rw [if_neg c3] at H
   have c3b0 : (a0 == 3) = false := beq_eq_false_iff_ne.mpr c3
   have c3b1 : (a0 != 3) = true := bne_iff_ne.mpr c3
   by_cases c4 : a0 = 4
   ·rw [if_pos c4] at H
    have c4b0 : (a0 == 4) = true := beq_iff_eq.mpr c4
    have c4b1 : (a0 != 4) = false := bne_eq_false_iff_eq.mpr c4
    clear c4
    obtain rfl := Option.some.inj H
    go_enter Try.func89, Try.ntmps89
    go_wp2
    go_ret
    exact ⟨by first | rfl | (simp; done) | (simp [*]; done), by repeat (first | exact Drawn0.refl _ | apply Drawn0.step)⟩
   ·rw [if_neg c4] at H
    have c4b0 : (a0 == 4) = false := beq_eq_false_iff_ne.mpr c4
    have c4b1 : (a0 != 4) = true := bne_iff_ne.mpr c4
    obtain rfl := Option.some.inj H
    go_enter Try.func89, Try.ntmps89
    go_wp2
    go_ret
    exact ⟨by first | rfl | (simp; done) | (simp [*]; done), by repeat (first | exact Drawn0.refl _ | apply Drawn0.step)⟩

end Go.Proofs.Ytobljmgoengofaa.PZ
/- inode.Name: which texts may be names. -/
namespace Go.Proofs.Ytobljmgoengofaa.Name
set_option linter.unusedSimpArgs false
open Go.RowKit Go.Lib Go.Proofs.Ytobljmgoengofaa.Base Go.Proofs.YtobljmgoengofaaW.PrintWords Go.Proofs.YtobljmgoengofaaW.PrintLast Go.Proofs.YtobljmgoengofaaW.PrintMore

/-- Which letters may stand in a name. -/
def letB (r : Nat) : Bool := (decide (97 ≤ r) && decide (r ≤ 122)) || (decide (48 ≤ r) && decide (r ≤ 57)) || decide (r = 46) || decide (r = 45) || decide (r = 95)
set_option maxHeartbeats 1000000 in
theorem letter_c (r : Nat) (w : World) : Calls Try.prog 102 #[.int .i32 (r : Int)] w fun e w' => e = .returned (.bool (letB r)) ∧ ∃ q, w' = w.drewN q := by
  go_enter Try.func102, Try.ntmps102
  go_wp2
  all_goals
    go_ret
    refine ⟨congrArg (fun b => Ending.returned (Value.bool b)) ?_, 0, rfl⟩
    rw [Bool.eq_iff_iff]
    simp only [letB, Bool.or_eq_true, Bool.and_eq_true, decide_eq_true_eq, beq_iff_eq]
    first | omega | (simp; omega)
theorem pred (w : World) : PredAt Try.prog 101 #[] encR (fun r => !letB r) w := fun W r _ => by
  unfold FnGives
  have hL := letter_c r
  obtain ⟨b, hb⟩ : ∃ b, letB r = b := ⟨_, rfl⟩
  dsimp only
  rw [hb] at hL ⊢
  clear hb
  go_enter Try.func101, Try.ntmps101
  go_wp2_with (go_at_call 102; refine (hL _).mono ?_; rintro e w' ⟨rfl, q, rfl⟩)
  go_ret
  exact ⟨rfl, _, rfl⟩

set_option maxHeartbeats 2000000 in
set_option maxRecDepth 1000000 in
theorem index_c (s : ByteArray) (w : World) :
    Calls Try.prog 103 #[.string s, .func (.func 101) #[] #[], .bool true] w fun e w' => e = .returned (.int .i64 (Lib.idxFunc (fun r => !letB r) true s)) ∧ Below w.heap.size w w' := by
  have hp := pred w
  obtain ⟨p, hpp⟩ : ∃ p : Nat → Bool, (fun r => !letB r) = p := ⟨_, rfl⟩
  rw [hpp] at hp ⊢
  clear hpp
  go_enter Try.func103, Try.ntmps103
  go_wp2
  go_loopg [] s.size (fun gf wx => ∃ pos : Nat, wx.heap[w.heap.size]? = some (.stringIter s pos) ∧ Below w.heap.size w wx ∧ Lib.idxFuncFrom p true s gf pos = Lib.idxFunc p true s ∧ s.size ≤ pos + gf)
  case atStart => exact ⟨0, World.iter_heap w s 0, (Below.refl _ w).alloc (Nat.le_refl _) _, rfl, by omega⟩
  case round =>
    obtain ⟨pos, hit, hbw, hleft, hfu⟩ := hrel
    by_cases hps : pos < s.size
    · obtain ⟨g', rfl⟩ : ∃ g', gk = g' + 1 := ⟨gk - 1, by omega⟩
      have hnx : ∀ ty, (Instr.next (.pointer (some ⟨w.heap.size, 0, none⟩)) true ty).run Try.prog wr = _ := fun ty => Lib.run_next_any_at wr w.heap.size s pos ty hit hps
      have hwd := Lib.width_pos s pos
      obtain ⟨R, hR⟩ : ∃ R, (Utf8.decode s pos).1 = R := ⟨_, rfl⟩
      obtain ⟨K, hK⟩ : ∃ K, (Utf8.decode s pos).2 = K := ⟨_, rfl⟩
      simp only [Lib.idxFuncFrom, hps, if_true, hR, hK] at hleft
      rw [hR, hK] at hnx
      rw [hK] at hwd
      have hit2 := Lib.iterAt_heap wr w.heap.size s pos (pos + K) hit
      have hbw2 := Lib.below_iterAt hbw (k := w.heap.size) (Nat.le_refl _) s (pos + K)
      obtain ⟨W, hWd⟩ : ∃ W, wr.iterAt w.heap.size s (pos + K) = W := ⟨_, rfl⟩
      rw [hWd] at hnx hit2 hbw2
      have cS : Calls Try.prog 101 (#[.int .i32 (R : Int)] ++ #[]) W _ := hp W R hbw2
      simp only [List.append_toArray, List.cons_append, List.nil_append, Array.append_empty] at cS
      clear hp
      cases hsp : p R <;> rw [hsp] at cS <;> simp only [hsp, if_true, Bool.false_eq_true, Bool.true_eq_false, if_false] at hleft
      · go_wp2_with (go_at_call 101; refine cS.mono ?_; rintro e W' ⟨rfl, q, rfl⟩)
        go_roundg g'
        case measure => omega
        case rel => exact ⟨pos + K, hit2, below_drewN' hbw2 q, hleft, by omega⟩
      · go_wp2_with (go_at_call 101; refine cS.mono ?_; rintro e W' ⟨rfl, q, rfl⟩)
        go_ret
        exact ⟨by rw [← hleft] <;> rfl, below_drewN' hbw2 q⟩
    · have hnx : ∀ ty, (Instr.next (.pointer (some ⟨w.heap.size, 0, none⟩)) true ty).run Try.prog wr = _ := fun ty => Lib.run_next_end_at wr w.heap.size s pos ty hit hps
      rw [Lib.idxFuncFrom_end p true s gk pos hps] at hleft
      go_wp2
      go_ret
      exact ⟨by rw [← hleft] <;> rfl, hbw⟩
set_option maxHeartbeats 1000000 in
theorem Index_c (s : ByteArray) (w : World) :
    Calls Try.prog 100 #[.string s, .func (.func 101) #[] #[]] w fun e w' => e = .returned (.int .i64 (Lib.idxFunc (fun r => !letB r) true s)) ∧ Below w.heap.size w w' := by
  have cI := index_c s w
  go_enter Try.func100, Try.ntmps100
  go_wp2_with (go_at_call 103; refine cI.mono ?_; rintro e w' ⟨rfl, hb⟩)
  go_ret
  exact ⟨rfl, hb⟩
def nameB (s : ByteArray) : Bool := decide (Lib.idxFunc (fun r => !letB r) true s < 0) && (decide (1 ≤ s.size) && decide (s.size ≤ 16))
set_option maxHeartbeats 1000000 in
theorem name_c (s : ByteArray) (w : World) :
    Calls Try.prog 98 #[.string s] w fun e w' => e = .returned (.bool (nameB s)) ∧ Below w.heap.size w w' := by
  have cI := Index_c s w
  unfold nameB
  obtain ⟨i, hi⟩ : ∃ i, Lib.idxFunc (fun r => !letB r) true s = i := ⟨_, rfl⟩
  rw [hi] at cI ⊢
  clear hi
  obtain ⟨b1, e1⟩ : ∃ b, decide (i < 0) = b := ⟨_, rfl⟩
  obtain ⟨b2, e2⟩ : ∃ b, decide (1 ≤ s.size) = b := ⟨_, rfl⟩
  obtain ⟨b3, e3⟩ : ∃ b, decide (s.size ≤ 16) = b := ⟨_, rfl⟩
  have z2 : decide ((1 : Int) ≤ (s.size : Int)) = b2 := by rw [← e2]; congr 1; exact propext (by omega)
  have z3 : decide ((s.size : Int) ≤ 16) = b3 := by rw [← e3]; congr 1; exact propext (by omega)
  rw [e1, e2, e3]
  cases b1 <;> cases b2 <;> cases b3
  all_goals
    go_enter Try.func98, Try.ntmps98
    go_wp2_with (go_at_call 100; refine cI.mono ?_; rintro e w' ⟨rfl, hb⟩)
    go_ret
    exact ⟨rfl, hb⟩
end Go.Proofs.Ytobljmgoengofaa.Name
/- inode.Name, in the printed functions' form. -/
namespace Go.Proofs.Ytobljmgoengofaa.PZ
open Go.RowKit
def inode_Name.f (a0 : ByteArray) : Option (Bool) := some (Name.nameB a0)
theorem inode_Name.calls (a0 : ByteArray) (r : Bool) (w : World) (h : inode_Name.f a0 = some r) :
    Calls Try.prog 98 #[.string a0] w fun e w' => e = .returned (.bool r) ∧ Below w.heap.size w w' := by
  obtain rfl : Name.nameB a0 = r := Option.some.inj h
  exact Name.name_c a0 w
end Go.Proofs.Ytobljmgoengofaa.PZ
-- printed for this claim by a program (pall.sh)
-- mended by fixpz.py
namespace Go.Proofs.Ytobljmgoengofaa.PZ
open Go.RowKit Go.Proofs.YtobljmgoengofaaW.PrintWords Go.Proofs.YtobljmgoengofaaW.PrintLast Go.Proofs.YtobljmgoengofaaW.PrintMore
attribute [local go_sem] max2_int min2_int max_two min_two max_three min_three max_four min_four   -- for this text's walks alone
set_option linter.unusedVariables false
set_option linter.unusedSimpArgs false

/-! ### scope_fields: function 94 -/
mutual
def scope_fields.j0 : Nat → Bool → Int → ByteArray → Int → Int → List (S75) → Option (Bool)
 | 0, _, _, _, _, _, _ => none
 | k + 1, x3, x102000, x102001, x102002, x102003, x102004 => if x3 = true then (some false) else ((scope_named.f x102000).bind fun t102 => (if t102 = true then ((inode_Name.f x102001).bind fun t103 => (scope_fields.j1 k (!t103) x102000 x102001 x102002 x102003 x102004)) else (scope_fields.j1 k false x102000 x102001 x102002 x102003 x102004)))
def scope_fields.j1 : Nat → Bool → Int → ByteArray → Int → Int → List (S75) → Option (Bool)
 | 0, _, _, _, _, _, _ => none
 | k + 1, x12, x102000, x102001, x102002, x102003, x102004 => if x12 = true then (scope_fields.j2 k x12 x102000 x102001 x102002 x102003 x102004) else ((scope_named.f x102000).bind fun t104 => (if t104 = true then (scope_fields.j2 k false x102000 x102001 x102002 x102003 x102004) else (scope_fields.j2 k (x102001.toList != ([] : List UInt8)) x102000 x102001 x102002 x102003 x102004)))
def scope_fields.j2 : Nat → Bool → Int → ByteArray → Int → Int → List (S75) → Option (Bool)
 | 0, _, _, _, _, _, _ => none
 | k + 1, x12, x102000, x102001, x102002, x102003, x102004 => if x12 = true then (some false) else (if x102000 = 5 then (if x102002 ≥ 0 then (if x102002 ≤ x102003 then (some (decide (x102003 ≤ 1099511627776))) else (some false)) else (some false)) else (if x102002 = 0 then (some (x102003 == 0)) else (some false)))
end
def scope_fields.f (k : Nat) (a0_0 : Int) (a0_1 : ByteArray) (a0_2 : Int) (a0_3 : Int) (l0_4 : List (S75)) : Option (Bool) := if a0_0 < 1 then (scope_fields.j0 k true a0_0 a0_1 a0_2 a0_3 l0_4) else (scope_fields.j0 k (decide (a0_0 > 8)) a0_0 a0_1 a0_2 a0_3 l0_4)
set_option maxHeartbeats 8000000 in
set_option maxRecDepth 100000 in
theorem scope_fields.calls (k : Nat) (a0_0 : Int) (a0_1 : ByteArray) (a0_2 : Int) (a0_3 : Int) (A0_4 : Option Addr) (c0_4 : Nat) (l0_4 : List (S75)) (r : Bool) (w : World) (hr0_4 : Kd.C k75 w A0_4 l0_4.length l0_4) (hc0_4 : l0_4.length ≤ c0_4) (h : scope_fields.f k a0_0 a0_1 a0_2 a0_3 l0_4 = some r) :
  Calls Try.prog 94 #[.agg #[.int .i64 a0_0, .string a0_1, .int .i64 a0_2, .int .i64 a0_3, .slice A0_4 l0_4.length c0_4]] w fun e w' => e = .returned (.bool r) ∧ Below w.heap.size w w' := by
 have hu75 := Try.underlying75
 have HR0_4 := Aside0.mk hr0_4
 have HC0_4 := Aside0.mk hc0_4
 clear hr0_4 hc0_4
 have HB := Aside0.mk (Below.refl w.heap.size w)
 have H : (if a0_0 < 1 then (scope_fields.j0 k true a0_0 a0_1 a0_2 a0_3 l0_4) else (scope_fields.j0 k (decide (a0_0 > 8)) a0_0 a0_1 a0_2 a0_3 l0_4)) = some r := h
 clear h
 have HC2 := Aside0.mk H
 clear H
 go_enter Try.func94, Try.ntmps94
 go_upto_region 1 with (first | ((with_reducible refine gate_dst (N := 1) rfl ?_); refine box_event ?hg (N := 1) ?hd (cs := #[.int .i64 a0_0, .string a0_1, .int .i64 a0_2, .int .i64 a0_3, .slice A0_4 l0_4.length c0_4]) (t := 75) ?hr ?_; (case hd => rfl); (case hg => rfl); (case hr => first | (go_simp; done) | (go_simp; rfl)); intro gb101 hg w3 hbox hb; have n0_ := Aside0.mk (below_step (by repeat (first | (with_reducible first | exact HB.out | apply below_alloc | apply pw_below_drewN | apply below_drew1) | exact HB.out)) hb); have n1_ := Aside0.mk (hbox); have n2_ := Aside0.mk ((by rw [hg]; exact (below_size (by repeat (first | (with_reducible first | exact HB.out | apply below_alloc | apply pw_below_drewN | apply below_drew1) | exact HB.out))) : w.heap.size ≤ gb101)); have n3_ := Aside0.mk ((by rw [hg]; exact (below_size (by repeat (first | (with_reducible first | exact HB.out | apply below_alloc | apply pw_below_drewN | apply below_drew1) | exact HB.out))) : w.heap.size ≤ gb101)); clear HB; have HB := n0_; have BK101 := n1_; have GW101 := n2_; have GE101 := n3_; clear n0_ n1_ n2_ n3_; clear hb hbox hg))
 (try simp only [Act.put, List.setIfInBounds_toArray, List.set_cons_zero, List.set_cons_succ])
 go_cut [3] (fun v3 wc => ∃ (kq : Nat) (x3_1 : Bool), v3 = .bool x3_1 ∧ Aside0 (scope_fields.j0 kq x3_1 a0_0 a0_1 a0_2 a0_3 l0_4 = some r) ∧ Aside0 (kq ≤ k) ∧ Aside0 (wc.heap[gb101]? = some (.cells #[.int .i64 a0_0, .string a0_1, .int .i64 a0_2, .int .i64 a0_3, (.slice A0_4 l0_4.length c0_4)] 75 (0, 0))) ∧ Aside0 (Below w.heap.size w wc))
 case first =>
  have H := HC2.out
  clear HC2
  by_cases c4 : a0_0 < 1
  ·rw [if_pos c4] at H
   have c4b0 : decide (a0_0 < 1) = true := decide_eq_true c4
   clear c4
   (first | rw [c4b0] | (simp only [i64_w, i32_w]; rw [c4b0]) | skip)
   have H' := Aside0.mk H
   clear H
   have hcz5_0 : w3.cell? ⟨gb101, 0, none⟩ = some (.int .i64 a0_0) := (blk_cell BK101.out 0).trans rfl
   have hcz5_1 : w3.cell? ⟨gb101, 1, none⟩ = some (.string a0_1) := (blk_cell BK101.out 1).trans rfl
   have hcz5_2 : w3.cell? ⟨gb101, 2, none⟩ = some (.int .i64 a0_2) := (blk_cell BK101.out 2).trans rfl
   have hcz5_3 : w3.cell? ⟨gb101, 3, none⟩ = some (.int .i64 a0_3) := (blk_cell BK101.out 3).trans rfl
   have hcz5_4 : w3.cell? ⟨gb101, 4, none⟩ = some (.slice A0_4 l0_4.length c0_4) := (blk_cell BK101.out 4).trans rfl
   have hfz5_0 := blk_frozen BK101.out 0
   have hfz5_1 := blk_frozen BK101.out 1
   have hfz5_2 := blk_frozen BK101.out 2
   have hfz5_3 := blk_frozen BK101.out 3
   have hfz5_4 := blk_frozen BK101.out 4
   go_wp2
   go_meet
   case rel => exact ⟨_, (true), (by first | rfl | (simp; done) | (simp [*]; done) | (simp [*]; exact (show ∀ l_ : List UInt8, l_.isEmpty = !(l_ != []) from fun l_ => by cases l_ <;> rfl) _)), H', ⟨by first | omega | exact Nat.le_refl _⟩, ⟨by (with_reducible repeat (first | refine blk_drewN ?_ _ | refine blk_drew ?_ | refine blk_alloc ?_ _)); exact BK101.out⟩, ⟨by repeat (first | (with_reducible first | exact HB.out | apply below_alloc | apply pw_below_drewN | apply below_drew1 | refine below_set ?_ GE101.out) | exact HB.out)⟩⟩
  ·rw [if_neg c4] at H
   have c4b0 : decide (a0_0 < 1) = false := decide_eq_false c4
   clear c4
   (first | rw [c4b0] | (simp only [i64_w, i32_w]; rw [c4b0]) | skip)
   have H' := Aside0.mk H
   clear H
   have hcz6_0 : w3.cell? ⟨gb101, 0, none⟩ = some (.int .i64 a0_0) := (blk_cell BK101.out 0).trans rfl
   have hcz6_1 : w3.cell? ⟨gb101, 1, none⟩ = some (.string a0_1) := (blk_cell BK101.out 1).trans rfl
   have hcz6_2 : w3.cell? ⟨gb101, 2, none⟩ = some (.int .i64 a0_2) := (blk_cell BK101.out 2).trans rfl
   have hcz6_3 : w3.cell? ⟨gb101, 3, none⟩ = some (.int .i64 a0_3) := (blk_cell BK101.out 3).trans rfl
   have hcz6_4 : w3.cell? ⟨gb101, 4, none⟩ = some (.slice A0_4 l0_4.length c0_4) := (blk_cell BK101.out 4).trans rfl
   have hfz6_0 := blk_frozen BK101.out 0
   have hfz6_1 := blk_frozen BK101.out 1
   have hfz6_2 := blk_frozen BK101.out 2
   have hfz6_3 := blk_frozen BK101.out 3
   have hfz6_4 := blk_frozen BK101.out 4
   go_wp2
   go_meet
   case rel => exact ⟨_, (decide (a0_0 > 8)), (by first | rfl | (simp; done) | (simp [*]; done) | (simp [*]; exact (show ∀ l_ : List UInt8, l_.isEmpty = !(l_ != []) from fun l_ => by cases l_ <;> rfl) _)), H', ⟨by first | omega | exact Nat.le_refl _⟩, ⟨by (with_reducible repeat (first | refine blk_drewN ?_ _ | refine blk_drew ?_ | refine blk_alloc ?_ _)); exact BK101.out⟩, ⟨by repeat (first | (with_reducible first | exact HB.out | apply below_alloc | apply pw_below_drewN | apply below_drew1 | refine below_set ?_ GE101.out) | exact HB.out)⟩⟩
 case rest =>
  clear HC2
  (try clear p2);(try clear c4);(try clear c4b0);(try clear hcz5_0);(try clear hcz5_1);(try clear hcz5_2);(try clear hcz5_3);(try clear hcz5_4);(try clear hcz6_0);(try clear hcz6_1);(try clear hcz6_2);(try clear hcz6_3);(try clear hcz6_4);(try clear hfz5_0);(try clear hfz5_1);(try clear hfz5_2);(try clear hfz5_3);(try clear hfz5_4);(try clear hfz6_0);(try clear hfz6_1);(try clear hfz6_2);(try clear hfz6_3);(try clear hfz6_4)
  obtain ⟨kq, x3_1, rfl, HA, HJ1, BK101, HB⟩ := hcut
  cases kq with
  | zero => exact absurd HA.out (by simp [scope_fields.j0])
  | succ kj1 =>
   have H := HA.out
   clear HA
   simp only [scope_fields.j0] at H
   by_cases c7 : x3_1 = true
   ·subst c7
    have H1 : (some false) = some r := by rw [if_pos rfl] at H; exact H
    clear H
    have H := H1
    clear H1
    obtain rfl := Option.some.inj H
    go_wp2
    go_ret
    exact ⟨by first | rfl | (simp [errW_none, errW_some] <;> rfl) | (simp [*, errW_none, errW_some] <;> rfl), by repeat (first | (with_reducible first | exact HB.out | apply below_alloc | apply pw_below_drewN | apply below_drew1 | refine below_set ?_ GE101.out) | exact HB.out)⟩
   ·replace c7 := Bool.eq_false_iff.mpr c7
    subst c7
    have H1 : ((scope_named.f a0_0).bind fun t102 => (if t102 = true then ((inode_Name.f a0_1).bind fun t103 => (scope_fields.j1 kj1 (!t103) a0_0 a0_1 a0_2 a0_3 l0_4)) else (scope_fields.j1 kj1 false a0_0 a0_1 a0_2 a0_3 l0_4))) = some r := by rw [if_neg (show ¬ (false = true) by decide)] at H; exact H
    clear H
    have H := H1
    clear H1
    have HC8 := Aside0.mk H
    clear H
    go_upto_region 3 with (fail)
    go_cut [12] (fun v12 wc => ∃ (kq : Nat) (x12_7 : Bool), v12 = .bool x12_7 ∧ Aside0 (scope_fields.j1 kq x12_7 a0_0 a0_1 a0_2 a0_3 l0_4 = some r) ∧ Aside0 (kq ≤ kj1) ∧ Aside0 (wc.heap[gb101]? = some (.cells #[.int .i64 a0_0, .string a0_1, .int .i64 a0_2, .int .i64 a0_3, (.slice A0_4 l0_4.length c0_4)] 75 (0, 0))) ∧ Aside0 (Below w.heap.size w wc))
    case first =>
     have H := HC8.out
     clear HC8
     replace H := Option.bind_eq_some_iff.mp H
     obtain ⟨t102, A90, H⟩ := H
     replace H : (if t102 = true then ((inode_Name.f a0_1).bind fun t103 => (scope_fields.j1 kj1 (!t103) a0_0 a0_1 a0_2 a0_3 l0_4)) else (scope_fields.j1 kj1 false a0_0 a0_1 a0_2 a0_3 l0_4)) = some r := H
     have A9 := Aside0.mk A90
     clear A90
     by_cases c10 : t102 = true
     ·subst c10
      have H1 : ((inode_Name.f a0_1).bind fun t103 => (scope_fields.j1 kj1 (!t103) a0_0 a0_1 a0_2 a0_3 l0_4)) = some r := by rw [if_pos rfl] at H; exact H
      clear H
      have H := H1
      clear H1
      replace H := Option.bind_eq_some_iff.mp H
      obtain ⟨t103, A110, H⟩ := H
      replace H : (scope_fields.j1 kj1 (!t103) a0_0 a0_1 a0_2 a0_3 l0_4) = some r := H
      have A11 := Aside0.mk A110
      clear A110
      have H' := Aside0.mk H
      clear H
      have hcz12_0 : wc.cell? ⟨gb101, 0, none⟩ = some (.int .i64 a0_0) := (blk_cell BK101.out 0).trans rfl
      have hcz12_1 : wc.cell? ⟨gb101, 1, none⟩ = some (.string a0_1) := (blk_cell BK101.out 1).trans rfl
      have hcz12_2 : wc.cell? ⟨gb101, 2, none⟩ = some (.int .i64 a0_2) := (blk_cell BK101.out 2).trans rfl
      have hcz12_3 : wc.cell? ⟨gb101, 3, none⟩ = some (.int .i64 a0_3) := (blk_cell BK101.out 3).trans rfl
      have hcz12_4 : wc.cell? ⟨gb101, 4, none⟩ = some (.slice A0_4 l0_4.length c0_4) := (blk_cell BK101.out 4).trans rfl
      have hfz12_0 := blk_frozen BK101.out 0
      have hfz12_1 := blk_frozen BK101.out 1
      have hfz12_2 := blk_frozen BK101.out 2
      have hfz12_3 := blk_frozen BK101.out 3
      have hfz12_4 := blk_frozen BK101.out 4
      go_wp2_with (first | ((with_reducible refine gate_callee (f := 89) rfl ?_); refine goesL_ (some 15) rfl rfl Try.func89 (by kernel_rfl) rfl #[.int .i64 a0_0] rfl (by (try simp only [List.map_toArray, List.map_cons, List.map_nil]); first | done | rfl | (simp only [List.length_drop, List.length_take]; rfl)) ?_; (with_reducible refine (scope_named.calls a0_0 true _ A9.out).mono ?_); rintro e w' ⟨rfl, ⟨nd, rfl⟩⟩; refine ⟨_, rfl, ?_⟩) | (go_at_call 98; (with_reducible refine (inode_Name.calls a0_1 t103 _ A11.out).mono ?_); rintro e w13 ⟨rfl, hb⟩; have n0_ := Aside0.mk (blk_below (g := gb101) (o := .cells #[.int .i64 a0_0, .string a0_1, .int .i64 a0_2, .int .i64 a0_3, .slice A0_4 l0_4.length c0_4] 75 (0, 0)) (by (with_reducible repeat (first | refine blk_drewN ?_ _ | refine blk_drew ?_ | refine blk_alloc ?_ _)); exact BK101.out) hb); have n1_ := Aside0.mk (below_step (by repeat (first | (with_reducible first | exact HB.out | apply below_alloc | apply pw_below_drewN | apply below_drew1 | refine below_set ?_ GE101.out) | exact HB.out)) hb); clear BK101; clear HB; have BK101 := n0_; have HB := n1_; clear n0_ n1_; (try clear hb); (try clear hb2); (try clear hk); (try clear hi)))
      go_meet
      case rel => exact ⟨_, (!t103), (by first | rfl | (simp; done) | (simp [*]; done) | (simp [*]; exact (show ∀ l_ : List UInt8, l_.isEmpty = !(l_ != []) from fun l_ => by cases l_ <;> rfl) _)), H', ⟨by have := HJ1.out; first | omega | exact Nat.le_refl _⟩, ⟨by (with_reducible repeat (first | refine blk_drewN ?_ _ | refine blk_drew ?_ | refine blk_alloc ?_ _)); exact BK101.out⟩, ⟨by repeat (first | (with_reducible first | exact HB.out | apply below_alloc | apply pw_below_drewN | apply below_drew1 | refine below_set ?_ GE101.out) | exact HB.out)⟩⟩
     ·replace c10 := Bool.eq_false_iff.mpr c10
      subst c10
      have H1 : (scope_fields.j1 kj1 false a0_0 a0_1 a0_2 a0_3 l0_4) = some r := by rw [if_neg (show ¬ (false = true) by decide)] at H; exact H
      clear H
      have H := H1
      clear H1
      have H' := Aside0.mk H
      clear H
      have hcz14_0 : wc.cell? ⟨gb101, 0, none⟩ = some (.int .i64 a0_0) := (blk_cell BK101.out 0).trans rfl
      have hcz14_1 : wc.cell? ⟨gb101, 1, none⟩ = some (.string a0_1) := (blk_cell BK101.out 1).trans rfl
      have hcz14_2 : wc.cell? ⟨gb101, 2, none⟩ = some (.int .i64 a0_2) := (blk_cell BK101.out 2).trans rfl
      have hcz14_3 : wc.cell? ⟨gb101, 3, none⟩ = some (.int .i64 a0_3) := (blk_cell BK101.out 3).trans rfl
      have hcz14_4 : wc.cell? ⟨gb101, 4, none⟩ = some (.slice A0_4 l0_4.length c0_4) := (blk_cell BK101.out 4).trans rfl
      have hfz14_0 := blk_frozen BK101.out 0
      have hfz14_1 := blk_frozen BK101.out 1
      have hfz14_2 := blk_frozen BK101.out 2
      have hfz14_3 := blk_frozen BK101.out 3
      have hfz14_4 := blk_frozen BK101.out 4
      go_wp2_with (first | ((with_reducible refine gate_callee (f := 89) rfl ?_); refine goesL_ (some 15) rfl rfl Try.func89 (by kernel_rfl) rfl #[.int .i64 a0_0] rfl (by (try simp only [List.map_toArray, List.map_cons, List.map_nil]); first | done | rfl | (simp only [List.length_drop, List.length_take]; rfl)) ?_; (with_reducible refine (scope_named.calls a0_0 false _ A9.out).mono ?_); rintro e w' ⟨rfl, ⟨nd, rfl⟩⟩; refine ⟨_, rfl, ?_⟩))
      go_meet
      case rel => exact ⟨_, (false), (by first | rfl | (simp; done) | (simp [*]; done) | (simp [*]; exact (show ∀ l_ : List UInt8, l_.isEmpty = !(l_ != []) from fun l_ => by cases l_ <;> rfl) _)), H', ⟨by have := HJ1.out; first | omega | exact Nat.le_refl _⟩, ⟨by (with_reducible repeat (first | refine blk_drewN ?_ _ | refine blk_drew ?_ | refine blk_alloc ?_ _)); exact BK101.out⟩, ⟨by repeat (first | (with_reducible first | exact HB.out | apply below_alloc | apply pw_below_drewN | apply below_drew1 | refine below_set ?_ GE101.out) | exact HB.out)⟩⟩
    case rest =>
     clear HC8
     (try clear c1);(try clear p2);(try clear c4);(try clear c4b0);(try clear c7);(try clear c8);(try clear c9);(try clear c10);(try clear hcz12_0);(try clear hcz12_1);(try clear hcz12_2);(try clear hcz12_3);(try clear hcz12_4);(try clear hcz14_0);(try clear hcz14_1);(try clear hcz14_2);(try clear hcz14_3);(try clear hcz14_4);(try clear hcz5_0);(try clear hcz5_1);(try clear hcz5_2);(try clear hcz5_3);(try clear hcz5_4);(try clear hcz6_0);(try clear hcz6_1);(try clear hcz6_2);(try clear hcz6_3);(try clear hcz6_4);(try clear hfz12_0);(try clear hfz12_1);(try clear hfz12_2);(try clear hfz12_3);(try clear hfz12_4);(try clear hfz14_0);(try clear hfz14_1);(try clear hfz14_2);(try clear hfz14_3);(try clear hfz14_4);(try clear hfz5_0);(try clear hfz5_1);(try clear hfz5_2);(try clear hfz5_3);(try clear hfz5_4);(try clear hfz6_0);(try clear hfz6_1);(try clear hfz6_2);(try clear hfz6_3);(try clear hfz6_4);(try clear p2)
     obtain ⟨kq, x12_7, rfl, HA, HJ7, BK101, HB⟩ := hcut
     cases kq with
     | zero => exact absurd HA.out (by simp [scope_fields.j1])
     | succ kj7 =>
      have H := HA.out
      clear HA
      simp only [scope_fields.j1] at H
      have HC15 := Aside0.mk H
      clear H
      go_upto_if 12 with (fail)
      go_cut [12] (fun v12 wc => ∃ (kq : Nat) (x12_14 : Bool), v12 = .bool x12_14 ∧ Aside0 (scope_fields.j2 kq x12_14 a0_0 a0_1 a0_2 a0_3 l0_4 = some r) ∧ Aside0 (kq ≤ kj7) ∧ Aside0 (wc.heap[gb101]? = some (.cells #[.int .i64 a0_0, .string a0_1, .int .i64 a0_2, .int .i64 a0_3, (.slice A0_4 l0_4.length c0_4)] 75 (0, 0))) ∧ Aside0 (Below w.heap.size w wc))
      case first =>
       have H := HC15.out
       clear HC15
       by_cases c16 : x12_7 = true
       ·subst c16
        have H1 : (scope_fields.j2 kj7 true a0_0 a0_1 a0_2 a0_3 l0_4) = some r := by rw [if_pos rfl] at H; exact H
        clear H
        have H := H1
        clear H1
        have H' := Aside0.mk H
        clear H
        go_wp2
        go_meet
        case rel => exact ⟨_, (true), (by first | rfl | (simp; done) | (simp [*]; done) | (simp [*]; exact (show ∀ l_ : List UInt8, l_.isEmpty = !(l_ != []) from fun l_ => by cases l_ <;> rfl) _)), H', ⟨by have := HJ1.out; have := HJ7.out; first | omega | exact Nat.le_refl _⟩, ⟨by (with_reducible repeat (first | refine blk_drewN ?_ _ | refine blk_drew ?_ | refine blk_alloc ?_ _)); exact BK101.out⟩, ⟨by repeat (first | (with_reducible first | exact HB.out | apply below_alloc | apply pw_below_drewN | apply below_drew1 | refine below_set ?_ GE101.out) | exact HB.out)⟩⟩
       ·replace c16 := Bool.eq_false_iff.mpr c16
        subst c16
        have H1 : ((scope_named.f a0_0).bind fun t104 => (if t104 = true then (scope_fields.j2 kj7 false a0_0 a0_1 a0_2 a0_3 l0_4) else (scope_fields.j2 kj7 (a0_1.toList != ([] : List UInt8)) a0_0 a0_1 a0_2 a0_3 l0_4))) = some r := by rw [if_neg (show ¬ (false = true) by decide)] at H; exact H
        clear H
        have H := H1
        clear H1
        replace H := Option.bind_eq_some_iff.mp H
        obtain ⟨t104, A170, H⟩ := H
        replace H : (if t104 = true then (scope_fields.j2 kj7 false a0_0 a0_1 a0_2 a0_3 l0_4) else (scope_fields.j2 kj7 (a0_1.toList != ([] : List UInt8)) a0_0 a0_1 a0_2 a0_3 l0_4)) = some r := H
        have A17 := Aside0.mk A170
        clear A170
        by_cases c18 : t104 = true
        ·subst c18
         have H1 : (scope_fields.j2 kj7 false a0_0 a0_1 a0_2 a0_3 l0_4) = some r := by rw [if_pos rfl] at H; exact H
         clear H
         have H := H1
         clear H1
         have H' := Aside0.mk H
         clear H
         have hcz19_0 : wc.cell? ⟨gb101, 0, none⟩ = some (.int .i64 a0_0) := (blk_cell BK101.out 0).trans rfl
         have hcz19_1 : wc.cell? ⟨gb101, 1, none⟩ = some (.string a0_1) := (blk_cell BK101.out 1).trans rfl
         have hcz19_2 : wc.cell? ⟨gb101, 2, none⟩ = some (.int .i64 a0_2) := (blk_cell BK101.out 2).trans rfl
         have hcz19_3 : wc.cell? ⟨gb101, 3, none⟩ = some (.int .i64 a0_3) := (blk_cell BK101.out 3).trans rfl
         have hcz19_4 : wc.cell? ⟨gb101, 4, none⟩ = some (.slice A0_4 l0_4.length c0_4) := (blk_cell BK101.out 4).trans rfl
         have hfz19_0 := blk_frozen BK101.out 0
         have hfz19_1 := blk_frozen BK101.out 1
         have hfz19_2 := blk_frozen BK101.out 2
         have hfz19_3 := blk_frozen BK101.out 3
         have hfz19_4 := blk_frozen BK101.out 4
         go_wp2_with (first | ((with_reducible refine gate_callee (f := 89) rfl ?_); refine goesL_ (some 24) rfl rfl Try.func89 (by kernel_rfl) rfl #[.int .i64 a0_0] rfl (by (try simp only [List.map_toArray, List.map_cons, List.map_nil]); first | done | rfl | (simp only [List.length_drop, List.length_take]; rfl)) ?_; (with_reducible refine (scope_named.calls a0_0 true _ A17.out).mono ?_); rintro e w' ⟨rfl, ⟨nd, rfl⟩⟩; refine ⟨_, rfl, ?_⟩))
         go_meet
         case rel => exact ⟨_, (false), (by first | rfl | (simp; done) | (simp [*]; done) | (simp [*]; exact (show ∀ l_ : List UInt8, l_.isEmpty = !(l_ != []) from fun l_ => by cases l_ <;> rfl) _)), H', ⟨by have := HJ1.out; have := HJ7.out; first | omega | exact Nat.le_refl _⟩, ⟨by (with_reducible repeat (first | refine blk_drewN ?_ _ | refine blk_drew ?_ | refine blk_alloc ?_ _)); exact BK101.out⟩, ⟨by repeat (first | (with_reducible first | exact HB.out | apply below_alloc | apply pw_below_drewN | apply below_drew1 | refine below_set ?_ GE101.out) | exact HB.out)⟩⟩
        ·replace c18 := Bool.eq_false_iff.mpr c18
         subst c18
         have H1 : (scope_fields.j2 kj7 (a0_1.toList != ([] : List UInt8)) a0_0 a0_1 a0_2 a0_3 l0_4) = some r := by rw [if_neg (show ¬ (false = true) by decide)] at H; exact H
         clear H
         have H := H1
         clear H1
         have H' := Aside0.mk H
         clear H
         have hcz20_0 : wc.cell? ⟨gb101, 0, none⟩ = some (.int .i64 a0_0) := (blk_cell BK101.out 0).trans rfl
         have hcz20_1 : wc.cell? ⟨gb101, 1, none⟩ = some (.string a0_1) := (blk_cell BK101.out 1).trans rfl
         have hcz20_2 : wc.cell? ⟨gb101, 2, none⟩ = some (.int .i64 a0_2) := (blk_cell BK101.out 2).trans rfl
         have hcz20_3 : wc.cell? ⟨gb101, 3, none⟩ = some (.int .i64 a0_3) := (blk_cell BK101.out 3).trans rfl
         have hcz20_4 : wc.cell? ⟨gb101, 4, none⟩ = some (.slice A0_4 l0_4.length c0_4) := (blk_cell BK101.out 4).trans rfl
         have hfz20_0 := blk_frozen BK101.out 0
         have hfz20_1 := blk_frozen BK101.out 1
         have hfz20_2 := blk_frozen BK101.out 2
         have hfz20_3 := blk_frozen BK101.out 3
         have hfz20_4 := blk_frozen BK101.out 4
         go_wp2_with (first | ((with_reducible refine gate_callee (f := 89) rfl ?_); refine goesL_ (some 24) rfl rfl Try.func89 (by kernel_rfl) rfl #[.int .i64 a0_0] rfl (by (try simp only [List.map_toArray, List.map_cons, List.map_nil]); first | done | rfl | (simp only [List.length_drop, List.length_take]; rfl)) ?_; (with_reducible refine (scope_named.calls a0_0 false _ A17.out).mono ?_); rintro e w' ⟨rfl, ⟨nd, rfl⟩⟩; refine ⟨_, rfl, ?_⟩))
         go_meet
         case rel => exact ⟨_, ((a0_1.toList != ([] : List UInt8))), (by first | rfl | (simp; done) | (simp [*]; done) | (simp [*]; exact (show ∀ l_ : List UInt8, l_.isEmpty = !(l_ != []) from fun l_ => by cases l_ <;> rfl) _)), H', ⟨by have := HJ1.out; have := HJ7.out; first | omega | exact Nat.le_refl _⟩, ⟨by (with_reducible repeat (first | refine blk_drewN ?_ _ | refine blk_drew ?_ | refine blk_alloc ?_ _)); exact BK101.out⟩, ⟨by repeat (first | (with_reducible first | exact HB.out | apply below_alloc | apply pw_below_drewN | apply below_drew1 | refine below_set ?_ GE101.out) | exact HB.out)⟩⟩
      case rest =>
       clear HC15
       (try clear c1);(try clear p2);(try clear c4);(try clear c4b0);(try clear c7);(try clear c8);(try clear c9);(try clear c10);(try clear c16);(try clear c18);(try clear hcz12_0);(try clear hcz12_1);(try clear hcz12_2);(try clear hcz12_3);(try clear hcz12_4);(try clear hcz14_0);(try clear hcz14_1);(try clear hcz14_2);(try clear hcz14_3);(try clear hcz14_4);(try clear hcz19_0);(try clear hcz19_1);(try clear hcz19_2);(try clear hcz19_3);(try clear hcz19_4);(try clear hcz20_0);(try clear hcz20_1);(try clear hcz20_2);(try clear hcz20_3);(try clear hcz20_4);(try clear hcz5_0);(try clear hcz5_1);(try clear hcz5_2);(try clear hcz5_3);(try clear hcz5_4);(try clear hcz6_0);(try clear hcz6_1);(try clear hcz6_2);(try clear hcz6_3);(try clear hcz6_4);(try clear hfz12_0);(try clear hfz12_1);(try clear hfz12_2);(try clear hfz12_3);(try clear hfz12_4);(try clear hfz14_0);(try clear hfz14_1);(try clear hfz14_2);(try clear hfz14_3);(try clear hfz14_4);(try clear hfz19_0);(try clear hfz19_1);(try clear hfz19_2);(try clear hfz19_3);(try clear hfz19_4);(try clear hfz20_0);(try clear hfz20_1);(try clear hfz20_2);(try clear hfz20_3);(try clear hfz20_4);(try clear hfz5_0);(try clear hfz5_1);(try clear hfz5_2);(try clear hfz5_3);(try clear hfz5_4);(try clear hfz6_0);(try clear hfz6_1);(try clear hfz6_2);(try clear hfz6_3);(try clear hfz6_4);(try clear p2)
       obtain ⟨kq, x12_14, rfl, HA, HJ14, BK101, HB⟩ := hcut
       cases kq with
       | zero => exact absurd HA.out (by simp [scope_fields.j2])
       | succ kj14 =>
        have H := HA.out
        clear HA
        simp only [scope_fields.j2] at H
        by_cases c21 : x12_14 = true
        ·subst c21
         have H1 : (some false) = some r := by rw [if_pos rfl] at H; exact H
         clear H
         have H := H1
         clear H1
         obtain rfl := Option.some.inj H
         go_wp2
         go_ret
         exact ⟨by first | rfl | (simp [errW_none, errW_some] <;> rfl) | (simp [*, errW_none, errW_some] <;> rfl), by repeat (first | (with_reducible first | exact HB.out | apply below_alloc | apply pw_below_drewN | apply below_drew1 | refine below_set ?_ GE101.out) | exact HB.out)⟩
        ·replace c21 := Bool.eq_false_iff.mpr c21
         subst c21
         have H1 : (if a0_0 = 5 then (if a0_2 ≥ 0 then (if a0_2 ≤ a0_3 then (some (decide (a0_3 ≤ 1099511627776))) else (some false)) else (some false)) else (if a0_2 = 0 then (some (a0_3 == 0)) else (some false))) = some r := by rw [if_neg (show ¬ (false = true) by decide)] at H; exact H
         clear H
         have H := H1
         clear H1
         by_cases c22 : a0_0 = 5
         ·rw [if_pos c22] at H
          have c22b0 : (a0_0 == 5) = true := beq_iff_eq.mpr c22
          have c22b1 : (a0_0 != 5) = false := bne_eq_false_iff_eq.mpr c22
          clear c22
          by_cases c23 : a0_2 ≥ 0
          ·rw [if_pos c23] at H
           have c23b0 : decide (0 ≤ a0_2) = true := decide_eq_true c23
           clear c23
           by_cases c24 : a0_2 ≤ a0_3
           ·rw [if_pos c24] at H
            have c24b0 : decide (a0_2 ≤ a0_3) = true := decide_eq_true c24
            clear c24
            obtain rfl := Option.some.inj H
            have hcz25_0 : wc.cell? ⟨gb101, 0, none⟩ = some (.int .i64 a0_0) := (blk_cell BK101.out 0).trans rfl
            have hcz25_1 : wc.cell? ⟨gb101, 1, none⟩ = some (.string a0_1) := (blk_cell BK101.out 1).trans rfl
            have hcz25_2 : wc.cell? ⟨gb101, 2, none⟩ = some (.int .i64 a0_2) := (blk_cell BK101.out 2).trans rfl
            have hcz25_3 : wc.cell? ⟨gb101, 3, none⟩ = some (.int .i64 a0_3) := (blk_cell BK101.out 3).trans rfl
            have hcz25_4 : wc.cell? ⟨gb101, 4, none⟩ = some (.slice A0_4 l0_4.length c0_4) := (blk_cell BK101.out 4).trans rfl
            have hfz25_0 := blk_frozen BK101.out 0
            have hfz25_1 := blk_frozen BK101.out 1
            have hfz25_2 := blk_frozen BK101.out 2
            have hfz25_3 := blk_frozen BK101.out 3
            have hfz25_4 := blk_frozen BK101.out 4
            go_wp2
            go_ret
            exact ⟨by first | rfl | (simp [errW_none, errW_some] <;> rfl) | (simp [*, errW_none, errW_some] <;> rfl), by repeat (first | (with_reducible first | exact HB.out | apply below_alloc | apply pw_below_drewN | apply below_drew1 | refine below_set ?_ GE101.out) | exact HB.out)⟩
           ·rw [if_neg c24] at H
            have c24b0 : decide (a0_2 ≤ a0_3) = false := decide_eq_false c24
            clear c24
            obtain rfl := Option.some.inj H
            have hcz26_0 : wc.cell? ⟨gb101, 0, none⟩ = some (.int .i64 a0_0) := (blk_cell BK101.out 0).trans rfl
            have hcz26_1 : wc.cell? ⟨gb101, 1, none⟩ = some (.string a0_1) := (blk_cell BK101.out 1).trans rfl
            have hcz26_2 : wc.cell? ⟨gb101, 2, none⟩ = some (.int .i64 a0_2) := (blk_cell BK101.out 2).trans rfl
            have hcz26_3 : wc.cell? ⟨gb101, 3, none⟩ = some (.int .i64 a0_3) := (blk_cell BK101.out 3).trans rfl
            have hcz26_4 : wc.cell? ⟨gb101, 4, none⟩ = some (.slice A0_4 l0_4.length c0_4) := (blk_cell BK101.out 4).trans rfl
            have hfz26_0 := blk_frozen BK101.out 0
            have hfz26_1 := blk_frozen BK101.out 1
            have hfz26_2 := blk_frozen BK101.out 2
            have hfz26_3 := blk_frozen BK101.out 3
            have hfz26_4 := blk_frozen BK101.out 4
            go_wp2
            go_ret
            exact ⟨by first | rfl | (simp [errW_none, errW_some] <;> rfl) | (simp [*, errW_none, errW_some] <;> rfl), by repeat (first | (with_reducible first | exact HB.out | apply below_alloc | apply pw_below_drewN | apply below_drew1 | refine below_set ?_ GE101.out) | exact HB.out)⟩
          ·rw [if_neg c23] at H
           have c23b0 : decide (0 ≤ a0_2) = false := decide_eq_false c23
           clear c23
           obtain rfl := Option.some.inj H
           have hcz27_0 : wc.cell? ⟨gb101, 0, none⟩ = some (.int .i64 a0_0) := (blk_cell BK101.out 0).trans rfl
           have hcz27_1 : wc.cell? ⟨gb101, 1, none⟩ = some (.string a0_1) := (blk_cell BK101.out 1).trans rfl
           have hcz27_2 : wc.cell? ⟨gb101, 2, none⟩ = some (.int .i64 a0_2) := (blk_cell BK101.out 2).trans rfl
           have hcz27_3 : wc.cell? ⟨gb101, 3, none⟩ = some (.int .i64 a0_3) := (blk_cell BK101.out 3).trans rfl
           have hcz27_4 : wc.cell? ⟨gb101, 4, none⟩ = some (.slice A0_4 l0_4.length c0_4) := (blk_cell BK101.out 4).trans rfl
           have hfz27_0 := blk_frozen BK101.out 0
           have hfz27_1 := blk_frozen BK101.out 1
           have hfz27_2 := blk_frozen BK101.out 2
           have hfz27_3 := blk_frozen BK101.out 3
           have hfz27_4 := blk_frozen BK101.out 4
           go_wp2
           go_ret
           exact ⟨by first | rfl | (simp [errW_none, errW_some] <;> rfl) | (simp [*, errW_none, errW_some] <;> rfl), by repeat (first | (with_reducible first | exact HB.out | apply below_alloc | apply pw_below_drewN | apply below_drew1 | refine below_set ?_ GE101.out) | exact HB.out)⟩
         ·rw [if_neg c22] at H
          have c22b0 : (a0_0 == 5) = false := beq_eq_false_iff_ne.mpr c22
          have c22b1 : (a0_0 != 5) = true := bne_iff_ne.mpr c22
          by_cases c28 : a0_2 = 0
          ·rw [if_pos c28] at H
           have c28b0 : (a0_2 == 0) = true := beq_iff_eq.mpr c28
           have c28b1 : (a0_2 != 0) = false := bne_eq_false_iff_eq.mpr c28
           clear c28
           obtain rfl := Option.some.inj H
           have hcz29_0 : wc.cell? ⟨gb101, 0, none⟩ = some (.int .i64 a0_0) := (blk_cell BK101.out 0).trans rfl
           have hcz29_1 : wc.cell? ⟨gb101, 1, none⟩ = some (.string a0_1) := (blk_cell BK101.out 1).trans rfl
           have hcz29_2 : wc.cell? ⟨gb101, 2, none⟩ = some (.int .i64 a0_2) := (blk_cell BK101.out 2).trans rfl
           have hcz29_3 : wc.cell? ⟨gb101, 3, none⟩ = some (.int .i64 a0_3) := (blk_cell BK101.out 3).trans rfl
           have hcz29_4 : wc.cell? ⟨gb101, 4, none⟩ = some (.slice A0_4 l0_4.length c0_4) := (blk_cell BK101.out 4).trans rfl
           have hfz29_0 := blk_frozen BK101.out 0
           have hfz29_1 := blk_frozen BK101.out 1
           have hfz29_2 := blk_frozen BK101.out 2
           have hfz29_3 := blk_frozen BK101.out 3
           have hfz29_4 := blk_frozen BK101.out 4
           go_wp2
           go_ret
           exact ⟨by first | rfl | (simp [errW_none, errW_some] <;> rfl) | (simp [*, errW_none, errW_some] <;> rfl), by repeat (first | (with_reducible first | exact HB.out | apply below_alloc | apply pw_below_drewN | apply below_drew1 | refine below_set ?_ GE101.out) | exact HB.out)⟩
          ·rw [if_neg c28] at H
           have c28b0 : (a0_2 == 0) = false := beq_eq_false_iff_ne.mpr c28
           have c28b1 : (a0_2 != 0) = true := bne_iff_ne.mpr c28
           obtain rfl := Option.some.inj H
           have hcz30_0 : wc.cell? ⟨gb101, 0, none⟩ = some (.int .i64 a0_0) := (blk_cell BK101.out 0).trans rfl
           have hcz30_1 : wc.cell? ⟨gb101, 1, none⟩ = some (.string a0_1) := (blk_cell BK101.out 1).trans rfl
           have hcz30_2 : wc.cell? ⟨gb101, 2, none⟩ = some (.int .i64 a0_2) := (blk_cell BK101.out 2).trans rfl
           have hcz30_3 : wc.cell? ⟨gb101, 3, none⟩ = some (.int .i64 a0_3) := (blk_cell BK101.out 3).trans rfl
           have hcz30_4 : wc.cell? ⟨gb101, 4, none⟩ = some (.slice A0_4 l0_4.length c0_4) := (blk_cell BK101.out 4).trans rfl
           have hfz30_0 := blk_frozen BK101.out 0
           have hfz30_1 := blk_frozen BK101.out 1
           have hfz30_2 := blk_frozen BK101.out 2
           have hfz30_3 := blk_frozen BK101.out 3
           have hfz30_4 := blk_frozen BK101.out 4
           go_wp2
           go_ret
           exact ⟨by first | rfl | (simp [errW_none, errW_some] <;> rfl) | (simp [*, errW_none, errW_some] <;> rfl), by repeat (first | (with_reducible first | exact HB.out | apply below_alloc | apply pw_below_drewN | apply below_drew1 | refine below_set ?_ GE101.out) | exact HB.out)⟩

end Go.Proofs.Ytobljmgoengofaa.PZ
/- scope.counter.may and scope.Check walked (printed by gen_scopemay.py). -/
namespace Go.Proofs.Ytobljmgoengofaa.Scope
set_option linter.unusedVariables false
set_option linter.unusedSimpArgs false
open Go.RowKit Go.Proofs.YtobljmgoengofaaW.PrintWords Go.Proofs.YtobljmgoengofaaW.PrintLast Go.Proofs.YtobljmgoengofaaW.PrintMore Go.Proofs.Ytobljmgoengofaa.PZ
def namedB (op : Int) : Bool := decide (op = 2) || decide (op = 3) || decide (op = 4)
def fieldsB (op : Int) (nm : ByteArray) (fr to_ : Int) : Bool :=
  if op < 1 ∨ op > 8 then false else if namedB op = true ∧ Name.nameB nm = false then false else if namedB op = false ∧ nm.toList ≠ [] then false
  else if op = 5 then decide (fr ≥ 0) && (decide (fr ≤ to_) && decide (to_ ≤ 1099511627776)) else decide (fr = 0) && decide (to_ = 0)
theorem named_v (op : Int) : scope_named.f op = some (namedB op) := by
  unfold scope_named.f namedB
  by_cases h2 : op = 2
  · simp [h2]
  · by_cases h3 : op = 3
    · simp [h3]
    · by_cases h4 : op = 4 <;> simp [h2, h3, h4]
theorem fields_j2 (k : Nat) (b : Bool) (op : Int) (nm : ByteArray) (fr to_ : Int) (l : List S75) : scope_fields.j2 (k + 1) b op nm fr to_ l = some (if b = true then false else if op = 5 then decide (fr ≥ 0) && (decide (fr ≤ to_) && decide (to_ ≤ 1099511627776)) else decide (fr = 0) && decide (to_ = 0)) := by
  unfold scope_fields.j2
  cases b
  · by_cases h5 : op = 5
    · by_cases h1 : fr ≥ 0
      · by_cases h2 : fr ≤ to_ <;> simp [h5, h1, h2]
      · simp [h5, h1]
    · by_cases h1 : fr = 0
      · by_cases h2 : to_ = 0 <;> simp [h5, h1, h2]
      · simp [h5, h1]
  · simp
theorem fields_j1 (k : Nat) (b : Bool) (op : Int) (nm : ByteArray) (fr to_ : Int) (l : List S75) : scope_fields.j1 (k + 2) b op nm fr to_ l = some (if b = true then false else if namedB op = false ∧ nm.toList ≠ [] then false else if op = 5 then decide (fr ≥ 0) && (decide (fr ≤ to_) && decide (to_ ≤ 1099511627776)) else decide (fr = 0) && decide (to_ = 0)) := by
  rw [show k + 2 = (k + 1) + 1 from rfl, scope_fields.j1]
  cases b
  · rw [if_neg (by decide), named_v, Option.bind_some]
    cases hn : namedB op
    · rw [if_neg (by decide), fields_j2]
      by_cases hs : nm.toList = [] <;> simp [hs]
    · rw [if_pos rfl, fields_j2]
      simp
  · rw [if_pos rfl, fields_j2]
    simp
theorem fields_j0 (k : Nat) (b : Bool) (op : Int) (nm : ByteArray) (fr to_ : Int) (l : List S75) : scope_fields.j0 (k + 3) b op nm fr to_ l = some (if b = true then false else if namedB op = true ∧ Name.nameB nm = false then false else if namedB op = false ∧ nm.toList ≠ [] then false else if op = 5 then decide (fr ≥ 0) && (decide (fr ≤ to_) && decide (to_ ≤ 1099511627776)) else decide (fr = 0) && decide (to_ = 0)) := by
  rw [show k + 3 = (k + 2) + 1 from rfl, scope_fields.j0]
  cases b
  · rw [if_neg (by decide), named_v, Option.bind_some]
    cases hn : namedB op
    · rw [if_neg (by decide), fields_j1, hn]
      simp
    · rw [if_pos rfl]
      unfold inode_Name.f
      rw [Option.bind_some, fields_j1, hn]
      cases hm : Name.nameB nm <;> simp
  · rw [if_pos rfl]
    simp
theorem fields_v (k : Nat) (op : Int) (nm : ByteArray) (fr to_ : Int) (l : List S75) : scope_fields.f (k + 3) op nm fr to_ l = some (fieldsB op nm fr to_) := by
  unfold scope_fields.f fieldsB
  by_cases h1 : op < 1
  · rw [if_pos h1, fields_j0, if_pos rfl, if_pos (Or.inl h1)]
  · rw [if_neg h1, fields_j0]
    by_cases h8 : op > 8
    · rw [decide_eq_true h8, if_pos rfl, if_pos (Or.inr h8)]
    · rw [decide_eq_false h8, if_neg (by decide), if_neg (by omega : ¬ (op < 1 ∨ op > 8))]
def leastB (op : Int) : Int := if op = 8 then 1 else if op = 6 then 2 else if op = 7 then 2 else 0
def mostB (op : Int) : Int := if op = 8 then 1 else if op = 6 then 24 else if op = 7 then 24 else 0
theorem kids_v (op : Int) : scope_kids.f op = some (leastB op, mostB op) := by
  unfold scope_kids.f leastB mostB
  by_cases h8 : op = 8
  · simp [h8]
  · by_cases h6 : op = 6
    · simp [h6]
    · by_cases h7 : op = 7 <;> simp [h8, h6, h7]
mutual
/-- May a scope be, so deep, with so many nodes left? And how many are left. -/
def mayS : S75 → Int → Int → Bool × Int
  | ⟨op, nm, fr, to_, kids⟩, deep, left =>
    if wrap64 (left - 1) < 0 then (false, wrap64 (left - 1)) else if deep = 0 then (false, wrap64 (left - 1)) else if fieldsB op nm fr to_ = false then (false, wrap64 (left - 1))
    else if (kids.length : Int) < leastB op then (false, wrap64 (left - 1)) else if mostB op < (kids.length : Int) then (false, wrap64 (left - 1))
    else (!(mayAny kids (wrap64 (deep - 1)) (wrap64 (left - 1))).1, (mayAny kids (wrap64 (deep - 1)) (wrap64 (left - 1))).2)
def mayAny : List S75 → Int → Int → Bool × Int
  | [], _, l => (false, l)
  | k :: ks, d, l => if (mayS k d l).1 = false then (true, (mayS k d l).2) else mayAny ks d (mayS k d l).2
end
theorem mayAny_run (d : Int) : ∀ (ks : List S75) (l : Int), runAny (fun k l => (!(mayS k d l).1, (mayS k d l).2)) ks l = mayAny ks d l
  | [], l => by simp [runAny, mayAny]
  | k :: ks, l => by
    rw [runAny, mayAny]
    cases h : (mayS k d l).1
    · simp
    · simp [mayAny_run d ks]
/-- All but one block stands. -/
def Kp (g : Nat) (w w' : World) : Prop := Below g w w' ∧ ∀ k, k ≠ g → k < w.heap.size → w'.heap[k]? = w.heap[k]?
theorem Kp.refl (g : Nat) (w : World) : Kp g w w := ⟨Below.refl _ _, fun _ _ _ => rfl⟩
theorem Kp.trans {g : Nat} {a b c : World} (h : Kp g a b) (k : Kp g b c) : Kp g a c := ⟨h.1.trans k.1, fun i hi hl => (k.2 i hi (Nat.lt_of_lt_of_le hl h.1.size)).trans (h.2 i hi hl)⟩
theorem Kp.of_below {g : Nat} {a b : World} (h : Below a.heap.size a b) (hg : g ≤ a.heap.size) : Kp g a b := ⟨h.mono hg, fun k _ hl => h.block k hl⟩
theorem Kp.set (g : Nat) (w : World) (v : Value) : Kp g w (w.setCell ⟨g, 0, none⟩ v) :=
  ⟨⟨rfl, rfl, rfl, by simp [World.setCell], fun k hk => Below.heap_setCell w ⟨g, 0, none⟩ v k (Nat.ne_of_lt hk)⟩, fun k hk _ => Below.heap_setCell w ⟨g, 0, none⟩ v k hk⟩
theorem Blk.kp {g k T : Nat} {w w' : World} {cs : Array Value} (h : Blk w k T cs) (hk : Kp g w w') (hne : k ≠ g) : Blk w' k T cs := (hk.2 k hne (blk_lt h)).trans h
theorem Kp.base {g b : Nat} {w0 w w' : World} (h : Kp g w w') (hb : Below b w0 w) (hg : b ≤ g) : Below b w0 w' := hb.trans (h.1.mono hg)
/-- What is known of may at a scope. -/
def MayC (x : S75) : Prop := ∀ (gc : Nat) (deep left : Int) A c w0 w, Kd.C k75 w0 A x.f4.length x.f4 → x.f4.length ≤ c → w0.heap.size ≤ gc → Below w0.heap.size w0 w → Blk w gc 103 #[.int .i64 left] →
  Calls Try.prog 88 #[.pointer (some ⟨gc, 0, none⟩), .agg #[.int .i64 x.f0, .string x.f1, .int .i64 x.f2, .int .i64 x.f3, .slice A x.f4.length c], .int .i64 deep] w fun e w' => e = .returned (.bool (mayS x deep left).1) ∧ Blk w' gc 103 #[.int .i64 (mayS x deep left).2] ∧ Kp gc w w'
set_option maxHeartbeats 1000000 in
set_option maxRecDepth 100000 in
theorem mayk_c {x : S75} (hm : MayC x) (gc g0 g1 : Nat) (deep left : Int) (A : Option Addr) (c : Nat) (w0 w : World) (hr : Kd.C k75 w0 A x.f4.length x.f4) (hc : x.f4.length ≤ c) (hg : w0.heap.size ≤ gc) (hb : Below w0.heap.size w0 w) (hL : Blk w gc 103 #[.int .i64 left])
    (h0 : Blk w g0 101 #[.pointer (some ⟨gc, 0, none⟩)]) (h1 : Blk w g1 3 #[.int .i64 deep]) :
    Calls Try.prog 96 #[.agg #[.int .i64 x.f0, .string x.f1, .int .i64 x.f2, .int .i64 x.f3, .slice A x.f4.length c], .pointer (some ⟨g0, 0, none⟩), .pointer (some ⟨g1, 0, none⟩)] w fun e w' => e = .returned (.bool (!(mayS x (wrap64 (deep - 1)) left).1)) ∧ Blk w' gc 103 #[.int .i64 (mayS x (wrap64 (deep - 1)) left).2] ∧ Kp gc w w' := by
  have HK := Aside0.mk (Kp.of_below (g := gc) (below_alloc (Below.refl w.heap.size w) (.cells #[.int .i64 x.f0, .string x.f1, .int .i64 x.f2, .int .i64 x.f3, .slice A x.f4.length c] 75)) (Nat.le_of_lt hL.lt))
  have HC := Aside0.mk (hm gc (wrap64 (deep - 1)) left A c w0 _ hr hc hg (below_alloc hb (.cells #[.int .i64 x.f0, .string x.f1, .int .i64 x.f2, .int .i64 x.f3, .slice A x.f4.length c] 75)) (hL.alloc _))
  have d0 := (h0.alloc (.cells #[.int .i64 x.f0, .string x.f1, .int .i64 x.f2, .int .i64 x.f3, .slice A x.f4.length c] 75)).cell 0
  have d1 := (h1.alloc (.cells #[.int .i64 x.f0, .string x.f1, .int .i64 x.f2, .int .i64 x.f3, .slice A x.f4.length c] 75)).cell 0
  simp only [List.getElem?_toArray, List.getElem?_cons_zero] at d0 d1
  have hu40 := Try.underlying75
  obtain ⟨r, hr_⟩ : ∃ r, mayS x (wrap64 (deep - 1)) left = r := ⟨_, rfl⟩
  rw [hr_] at HC ⊢
  obtain ⟨b, l2⟩ := r
  clear hm hr hc hg hb hL h0 h1 hr_
  dsimp only at HC ⊢
  go_enter Try.func96, Try.ntmps96
  go_wp2_with (go_at_call 88; refine HC.out.mono ?_; rintro e w' ⟨rfl, h1, h2⟩; have H1 := Aside0.mk h1; have H2 := Aside0.mk (HK.out.trans h2); clear h1 h2)
  go_ret
  exact ⟨rfl, H1.out, H2.out⟩
theorem blk1 (w : World) (a o : Obj) : ((w.alloc a).alloc o).heap[w.heap.size]? = some a := blk_alloc (blk_new _ _) _
set_option maxHeartbeats 4000000 in
set_option maxRecDepth 100000 in
theorem may_n : ∀ (n : Nat) (x : S75), SizeOf.sizeOf x < n → MayC x := by
  intro n
  induction n with
  | zero => intro x h; exact absurd h (by omega)
  | succ n ih =>
  intro x hn gc deep left A c w0 w hr hc hg hb hL
  have HIH := Aside0.mk (fun k (hk : k ∈ x.f4) => ih k (by have := kid_lt hk; omega))
  have HR := Aside0.mk hr
  have HC := Aside0.mk hc
  have HG := Aside0.mk hg
  have HV := Aside0.mk (show mayS x deep left = if wrap64 (left - 1) < 0 then (false, wrap64 (left - 1)) else if deep = 0 then (false, wrap64 (left - 1)) else if fieldsB x.f0 x.f1 x.f2 x.f3 = false then (false, wrap64 (left - 1))
      else if (x.f4.length : Int) < leastB x.f0 then (false, wrap64 (left - 1)) else if mostB x.f0 < (x.f4.length : Int) then (false, wrap64 (left - 1))
      else (!(mayAny x.f4 (wrap64 (deep - 1)) (wrap64 (left - 1))).1, (mayAny x.f4 (wrap64 (deep - 1)) (wrap64 (left - 1))).2) by
    obtain ⟨op, nm, fr, to_, kids⟩ := x
    simp only [mayS])
  have HKV := Aside0.mk (kids_v x.f0)
  have HFV := Aside0.mk (fields_v 0 x.f0 x.f1 x.f2 x.f3 x.f4)
  obtain ⟨lo, hlo⟩ : ∃ v, leastB x.f0 = v := ⟨_, rfl⟩
  obtain ⟨hi, hhi⟩ : ∃ v, mostB x.f0 = v := ⟨_, rfl⟩
  obtain ⟨fb, hfb⟩ : ∃ v, fieldsB x.f0 x.f1 x.f2 x.f3 = v := ⟨_, rfl⟩
  obtain ⟨l1, hl1⟩ : ∃ v, wrap64 (left - 1) = v := ⟨_, rfl⟩
  rw [hlo, hhi] at HKV
  rw [hfb] at HFV
  rw [hlo, hhi, hfb, hl1] at HV
  have hne := Nat.ne_of_lt hL.lt
  have H0 := Aside0.mk (show Blk (((w.alloc (.cells #[.pointer (some ⟨gc, 0, none⟩)] 101)).alloc (.cells #[.int .i64 x.f0, .string x.f1, .int .i64 x.f2, .int .i64 x.f3, .slice A x.f4.length c] 75)).alloc (.cells #[.int .i64 deep] 3)) w.heap.size 101 #[.pointer (some ⟨gc, 0, none⟩)] from blk_alloc (blk1 _ _ _) _)
  have H1 := Aside0.mk (show Blk (((w.alloc (.cells #[.pointer (some ⟨gc, 0, none⟩)] 101)).alloc (.cells #[.int .i64 x.f0, .string x.f1, .int .i64 x.f2, .int .i64 x.f3, .slice A x.f4.length c] 75)).alloc (.cells #[.int .i64 deep] 3)) (w.heap.size + 1) 75 #[.int .i64 x.f0, .string x.f1, .int .i64 x.f2, .int .i64 x.f3, .slice A x.f4.length c] from blk_alloc (blk2 _ _ _) _)
  have H2 := Aside0.mk (show Blk (((w.alloc (.cells #[.pointer (some ⟨gc, 0, none⟩)] 101)).alloc (.cells #[.int .i64 x.f0, .string x.f1, .int .i64 x.f2, .int .i64 x.f3, .slice A x.f4.length c] 75)).alloc (.cells #[.int .i64 deep] 3)) (w.heap.size + 1 + 1) 3 #[.int .i64 deep] from blk3 _ _ _ _)
  have HLL := Aside0.mk (show Blk (((w.alloc (.cells #[.pointer (some ⟨gc, 0, none⟩)] 101)).alloc (.cells #[.int .i64 x.f0, .string x.f1, .int .i64 x.f2, .int .i64 x.f3, .slice A x.f4.length c] 75)).alloc (.cells #[.int .i64 deep] 3)) gc 103 #[.int .i64 left] from ((hL.alloc _).alloc _).alloc _)
  have HBB := Aside0.mk (show Below w0.heap.size w0 (((w.alloc (.cells #[.pointer (some ⟨gc, 0, none⟩)] 101)).alloc (.cells #[.int .i64 x.f0, .string x.f1, .int .i64 x.f2, .int .i64 x.f3, .slice A x.f4.length c] 75)).alloc (.cells #[.int .i64 deep] 3)) from below_alloc (below_alloc (below_alloc hb _) _) _)
  have HKP := Aside0.mk (show Kp gc w (((w.alloc (.cells #[.pointer (some ⟨gc, 0, none⟩)] 101)).alloc (.cells #[.int .i64 x.f0, .string x.f1, .int .i64 x.f2, .int .i64 x.f3, .slice A x.f4.length c] 75)).alloc (.cells #[.int .i64 deep] 3)) from Kp.of_below (below_alloc (below_alloc (below_alloc (Below.refl _ _) _) _) _) (Nat.le_of_lt hL.lt))
  have HNE := Aside0.mk (show w.heap.size ≠ gc ∧ w.heap.size + 1 ≠ gc ∧ w.heap.size + 1 + 1 ≠ gc by have := hL.lt; omega)
  have hcz := HLL.out.cell 0
  have hfz := blk_frozen HLL.out 0
  have d0 := H0.out.cell 0
  simp only [List.getElem?_toArray, List.getElem?_cons_zero] at hcz d0
  obtain ⟨r, hrr⟩ : ∃ r, mayS x deep left = r := ⟨_, rfl⟩
  rw [hrr] at HV ⊢
  clear hr hc hn ih hg hb hL hlo hhi hfb hrr hne
  have hu40 := Try.underlying75
  have hu38 := Try.underlying73
  have hu94 := Try.underlying103
  obtain ⟨g, hg⟩ : ∃ g, w.heap.size = g := ⟨_, rfl⟩
  go_enter Try.func88, Try.ntmps88
  clear hg
  go_upto_region 2 with (fail)
  obtain ⟨V, hV⟩ : ∃ V, (((w.alloc (.cells #[.pointer (some ⟨gc, 0, none⟩)] 101)).alloc (.cells #[.int .i64 x.f0, .string x.f1, .int .i64 x.f2, .int .i64 x.f3, .slice A x.f4.length c] 75)).alloc (.cells #[.int .i64 deep] 3)) = V := ⟨_, rfl⟩
  rw [hV] at H0 H1 H2 HLL HBB HKP hcz hfz d0 ⊢
  clear hV hcz hfz d0
  rw [hl1]
  obtain ⟨V1, hV⟩ : ∃ V1, V.setCell ⟨gc, 0, none⟩ (.int .i64 l1) = V1 := ⟨_, rfl⟩
  have HK1 := Aside0.mk (show Kp gc V V1 by rw [← hV]; exact Kp.set gc V _)
  have HL1 := Aside0.mk (show Blk V1 gc 103 #[.int .i64 l1] by rw [← hV]; exact blk_set HLL.out 0 _)
  rw [hV]
  have q0 := (H1.out.kp HK1.out HNE.out.2.1).cell 0
  simp only [List.getElem?_toArray, List.getElem?_cons_zero] at q0
  clear hV
  go_upto_region 3 with (go_at_call 93; refine (scope_kids.calls x.f0 lo hi _ HKV.out).mono ?_; rintro e w' ⟨rfl, hd⟩; have HD := Aside0.mk hd.below; clear hd)
  rename_i V2
  clear q0
  have hn_ := HNE.out
  have HK2 := Aside0.mk ((HKP.out.trans HK1.out).trans (Kp.of_below HD.out (Nat.le_of_lt HL1.out.lt)))
  have HL2 := Aside0.mk (HL1.out.below HD.out)
  have HB2 := Aside0.mk ((HK1.out.trans (Kp.of_below HD.out (Nat.le_of_lt HL1.out.lt))).base HBB.out HG.out)
  have HA0 := Aside0.mk (Blk.below (H0.out.kp HK1.out hn_.1) HD.out)
  have HA1 := Aside0.mk (Blk.below (H1.out.kp HK1.out hn_.2.1) HD.out)
  have HA2 := Aside0.mk (Blk.below (H2.out.kp HK1.out hn_.2.2) HD.out)
  clear hn_ HD HK1 HL1 H0 H1 H2 HLL HKP HBB HKV
  have d0 := HA0.out.cell 0
  have q0 := HA1.out.cell 0
  have q1 := HA1.out.cell 1
  have q2 := HA1.out.cell 2
  have q3 := HA1.out.cell 3
  have q4 := HA1.out.cell 4
  have d2 := HA2.out.cell 0
  have l0 := HL2.out.cell 0
  simp only [List.getElem?_toArray, List.getElem?_cons_zero, List.getElem?_cons_succ] at d0 q0 q1 q2 q3 q4 d2 l0
  have HV1 := HV.out
  clear HV
  by_cases c1 : l1 < 0
  · have z1 : decide (l1 < 0) = true := decide_eq_true c1
    rw [if_pos c1] at HV1
    subst HV1
    clear c1
    go_wp2
    go_ret
    exact ⟨rfl, HL2.out, HK2.out⟩
  have z1 : decide (l1 < 0) = false := decide_eq_false c1
  rw [if_neg c1] at HV1
  clear c1
  by_cases c2 : deep = 0
  · have z2 : (deep == 0) = true := beq_iff_eq.mpr c2
    rw [if_pos c2] at HV1
    subst HV1
    clear c2
    go_wp2
    go_ret
    exact ⟨rfl, HL2.out, HK2.out⟩
  have z2 : (deep == 0) = false := beq_eq_false_iff_ne.mpr c2
  rw [if_neg c2] at HV1
  clear c2
  cases fb with
  | false =>
    rw [if_pos rfl] at HV1
    subst HV1
    go_wp2_with (go_at_call 94; refine (scope_fields.calls (0 + 3) x.f0 x.f1 x.f2 x.f3 A c x.f4 false _ (Kd.C_below HR.out HB2.out) HC.out HFV.out).mono ?_; rintro e w' ⟨rfl, hb⟩; have HL3 := Aside0.mk (HL2.out.below hb); have HK3 := Aside0.mk (HK2.out.trans (Kp.of_below hb (Nat.le_of_lt HL2.out.lt))); have HB3 := Aside0.mk (below_step HB2.out hb); have e0 := HA1.out.below hb; have e4 := e0.cell 4; have e2 := HA2.out.below hb; have HE0 := Aside0.mk (HA0.out.below hb); have HE2 := Aside0.mk e2; simp only [List.getElem?_toArray, List.getElem?_cons_zero, List.getElem?_cons_succ] at e4; clear e0 e2 hb)
    go_ret
    exact ⟨rfl, HL3.out, HK3.out⟩
  | true =>
    rw [if_neg (by decide)] at HV1
    by_cases c4 : (x.f4.length : Int) < lo
    · have z4 : decide ((x.f4.length : Int) < lo) = true := decide_eq_true c4
      rw [if_pos c4] at HV1
      subst HV1
      clear c4
      go_wp2_with (go_at_call 94; refine (scope_fields.calls (0 + 3) x.f0 x.f1 x.f2 x.f3 A c x.f4 true _ (Kd.C_below HR.out HB2.out) HC.out HFV.out).mono ?_; rintro e w' ⟨rfl, hb⟩; have HL3 := Aside0.mk (HL2.out.below hb); have HK3 := Aside0.mk (HK2.out.trans (Kp.of_below hb (Nat.le_of_lt HL2.out.lt))); have HB3 := Aside0.mk (below_step HB2.out hb); have e0 := HA1.out.below hb; have e4 := e0.cell 4; have e2 := HA2.out.below hb; have HE0 := Aside0.mk (HA0.out.below hb); have HE2 := Aside0.mk e2; simp only [List.getElem?_toArray, List.getElem?_cons_zero, List.getElem?_cons_succ] at e4; clear e0 e2 hb)
      go_ret
      exact ⟨rfl, HL3.out, HK3.out⟩
    have z4 : decide ((x.f4.length : Int) < lo) = false := decide_eq_false c4
    rw [if_neg c4] at HV1
    clear c4
    by_cases c5 : hi < (x.f4.length : Int)
    · have z5 : decide (hi < (x.f4.length : Int)) = true := decide_eq_true c5
      rw [if_pos c5] at HV1
      subst HV1
      clear c5
      go_wp2_with (go_at_call 94; refine (scope_fields.calls (0 + 3) x.f0 x.f1 x.f2 x.f3 A c x.f4 true _ (Kd.C_below HR.out HB2.out) HC.out HFV.out).mono ?_; rintro e w' ⟨rfl, hb⟩; have HL3 := Aside0.mk (HL2.out.below hb); have HK3 := Aside0.mk (HK2.out.trans (Kp.of_below hb (Nat.le_of_lt HL2.out.lt))); have HB3 := Aside0.mk (below_step HB2.out hb); have e0 := HA1.out.below hb; have e4 := e0.cell 4; have e2 := HA2.out.below hb; have HE0 := Aside0.mk (HA0.out.below hb); have HE2 := Aside0.mk e2; simp only [List.getElem?_toArray, List.getElem?_cons_zero, List.getElem?_cons_succ] at e4; clear e0 e2 hb)
      go_ret
      exact ⟨rfl, HL3.out, HK3.out⟩
    have z5 : decide (hi < (x.f4.length : Int)) = false := decide_eq_false c5
    rw [if_neg c5] at HV1
    clear c5
    have HAY := Aside0.mk (fun W (h0 : Blk W gc 103 #[.int .i64 l1] ∧ Blk W w.heap.size 101 #[.pointer (some ⟨gc, 0, none⟩)] ∧ Blk W (w.heap.size + 1 + 1) 3 #[.int .i64 deep] ∧ Below w0.heap.size w0 W ∧ Kp gc w W) => any_may w.heap.size (w.heap.size + 1 + 1) (fun k l => (!(mayS k (wrap64 (deep - 1)) l).1, (mayS k (wrap64 (deep - 1)) l).2)) (fun l W => Blk W gc 103 #[.int .i64 l] ∧ Blk W w.heap.size 101 #[.pointer (some ⟨gc, 0, none⟩)] ∧ Blk W (w.heap.size + 1 + 1) 3 #[.int .i64 deep] ∧ Below w0.heap.size w0 W ∧ Kp gc w W) A x.f4 c w0 HR.out (fun _ _ h => h.2.2.2.1) (by
      intro k hk l W A4 c4 hi_ h1 h2
      refine (mayk_c (HIH.out k hk) gc w.heap.size (w.heap.size + 1 + 1) deep l A4 c4 w0 W h1 h2 HG.out hi_.2.2.2.1 hi_.1 hi_.2.1 hi_.2.2.1).mono ?_
      rintro e w' ⟨rfl, g1, g2⟩
      exact ⟨rfl, g1, hi_.2.1.kp g2 HNE.out.1, hi_.2.2.1.kp g2 HNE.out.2.2, g2.base hi_.2.2.2.1 HG.out, hi_.2.2.2.2.trans g2⟩) l1 W h0)
    rw [mayAny_run] at HAY
    obtain ⟨q, hq⟩ : ∃ q, mayAny x.f4 (wrap64 (deep - 1)) l1 = q := ⟨_, rfl⟩
    rw [hq] at HAY HV1
    obtain ⟨qb, ql⟩ := q
    dsimp only at HAY HV1
    subst HV1
    clear hq HIH
    go_wp2_with (first
      | (go_at_call 94; refine (scope_fields.calls (0 + 3) x.f0 x.f1 x.f2 x.f3 A c x.f4 true _ (Kd.C_below HR.out HB2.out) HC.out HFV.out).mono ?_; rintro e w' ⟨rfl, hb⟩; have HL3 := Aside0.mk (HL2.out.below hb); have HK3 := Aside0.mk (HK2.out.trans (Kp.of_below hb (Nat.le_of_lt HL2.out.lt))); have HB3 := Aside0.mk (below_step HB2.out hb); have e0 := HA1.out.below hb; have e4 := e0.cell 4; have e2 := HA2.out.below hb; have HE0 := Aside0.mk (HA0.out.below hb); have HE2 := Aside0.mk e2; simp only [List.getElem?_toArray, List.getElem?_cons_zero, List.getElem?_cons_succ] at e4; clear e0 e2 hb)
      | (go_at_call 95; refine (HAY.out _ ⟨HL3.out, HE0.out, HE2.out, HB3.out, HK3.out⟩).mono ?_; rintro e w' ⟨rfl, g1, _, _, _, g5⟩; have HL4 := Aside0.mk g1; have HK4 := Aside0.mk g5; clear g1 g5))
    go_ret
    exact ⟨rfl, HL4.out, HK4.out⟩
end Go.Proofs.Ytobljmgoengofaa.Scope
/- scope.Match and scope.Check, in the printed functions' form. -/
namespace Go.Proofs.Ytobljmgoengofaa.Scope
set_option linter.unusedVariables false
set_option linter.unusedSimpArgs false
open Go.RowKit Go.Proofs.YtobljmgoengofaaW.PrintWords Go.Proofs.YtobljmgoengofaaW.PrintLast Go.Proofs.YtobljmgoengofaaW.PrintMore Go.Proofs.Ytobljmgoengofaa.PZ
/-- May a scope be? -/
def mayB (x : S75) : Bool := (mayS x 8 24).1
set_option maxHeartbeats 2000000 in
set_option maxRecDepth 100000 in
theorem check_c (x : S75) (A : Option Addr) (c : Nat) (w : World) (hr : Kd.C k75 w A x.f4.length x.f4) (hc : x.f4.length ≤ c) :
    Calls Try.prog 84 #[.agg #[.int .i64 x.f0, .string x.f1, .int .i64 x.f2, .int .i64 x.f3, .slice A x.f4.length c]] w fun e w' => e = .returned (.int .i64 (if mayB x = true then 0 else 1)) ∧ Below w.heap.size w w' := by
  have HL := Aside0.mk (show Blk ((w.alloc (.cells #[.int .i64 x.f0, .string x.f1, .int .i64 x.f2, .int .i64 x.f3, .slice A x.f4.length c] 75)).alloc (.cells #[.int .i64 24] 103)) (w.heap.size + 1) 103 #[.int .i64 24] from blk2 _ _ _)
  have HB := Aside0.mk (show Below w.heap.size w ((w.alloc (.cells #[.int .i64 x.f0, .string x.f1, .int .i64 x.f2, .int .i64 x.f3, .slice A x.f4.length c] 75)).alloc (.cells #[.int .i64 24] 103)) from below_alloc (below_alloc (Below.refl _ _) _) _)
  have HM := Aside0.mk (may_n (SizeOf.sizeOf x + 1) x (Nat.lt_succ_self _) (w.heap.size + 1) 8 24 A c w _ hr hc (Nat.le_succ _) HB.out HL.out)
  have hu40 := Try.underlying75
  have hu94 := Try.underlying103
  unfold mayB
  obtain ⟨r, hr_⟩ : ∃ r, mayS x 8 24 = r := ⟨_, rfl⟩
  rw [hr_] at HM ⊢
  clear hr hc hr_ HL
  obtain ⟨b, l⟩ := r
  dsimp only at HM ⊢
  cases b
  all_goals
    go_enter Try.func84, Try.ntmps84
    go_wp2_with (go_at_call 88; refine HM.out.mono ?_; rintro e w' ⟨rfl, _, hk⟩; have HF := Aside0.mk (hk.base HB.out (Nat.le_succ _)); clear hk)
    go_ret
    exact ⟨rfl, HF.out⟩
end Go.Proofs.Ytobljmgoengofaa.Scope
namespace Go.Proofs.Ytobljmgoengofaa.PZ
set_option linter.unusedVariables false
open Go.RowKit Go.Proofs.YtobljmgoengofaaW.PrintWords
def scope_Check.f (a0_0 : Int) (a0_1 : ByteArray) (a0_2 : Int) (a0_3 : Int) (l0_4 : List S75) : Option Int := some (if Scope.mayB ⟨a0_0, a0_1, a0_2, a0_3, l0_4⟩ = true then 0 else 1)
theorem scope_Check.calls (a0_0 : Int) (a0_1 : ByteArray) (a0_2 : Int) (a0_3 : Int) (A0_4 : Option Addr) (c0_4 : Nat) (l0_4 : List S75) (r : Int) (w : World) (hr0_4 : Kd.C k75 w A0_4 l0_4.length l0_4) (hc0_4 : l0_4.length ≤ c0_4) (h : scope_Check.f a0_0 a0_1 a0_2 a0_3 l0_4 = some r) :
    Calls Try.prog 84 #[.agg #[.int .i64 a0_0, .string a0_1, .int .i64 a0_2, .int .i64 a0_3, .slice A0_4 l0_4.length c0_4]] w fun e w' => e = .returned (.int .i64 r) ∧ Below w.heap.size w w' := by
  obtain rfl := Option.some.inj h
  exact Scope.check_c ⟨a0_0, a0_1, a0_2, a0_3, l0_4⟩ A0_4 c0_4 w hr0_4 hc0_4
end Go.Proofs.Ytobljmgoengofaa.PZ
/- What a reader of bytes answers, in plain words: its state is the bytes that are left, or that it failed. -/
namespace Go.Proofs.Ytobljmgoengofaa.TlvPlain
open Go.Proofs.Ytobljmgoengofaa.Base Go.RowKit Go.Proofs.YtobljmgoengofaaW.PrintWords

def U8 (b : List Int) : Prop := ∀ x ∈ b, 0 ≤ x ∧ x ≤ 255
theorem U8.take {b : List Int} (h : U8 b) (n : Nat) : U8 (b.take n) := fun x hx => h x (List.mem_of_mem_take hx)
theorem U8.drop {b : List Int} (h : U8 b) (n : Nat) : U8 (b.drop n) := fun x hx => h x (List.mem_of_mem_drop hx)
theorem U8.nil : U8 [] := fun _ h => by cases h
theorem U8.append {a b : List Int} (h : U8 a) (k : U8 b) : U8 (a ++ b) := fun x hx => (List.mem_append.1 hx).elim (h x) (k x)
theorem U8.cons {x : Int} {b : List Int} (h : 0 ≤ x ∧ x ≤ 255) (k : U8 b) : U8 (x :: b) := fun y hy => (List.mem_cons.1 hy).elim (fun e => e ▸ h) (k y)
theorem U8.head {x : Int} {b : List Int} (h : U8 (x :: b)) : 0 ≤ x ∧ x ≤ 255 := h x (List.mem_cons_self ..)
theorem U8.tail {x : Int} {b : List Int} (h : U8 (x :: b)) : U8 b := fun y hy => h y (List.mem_cons_of_mem _ hy)

end Go.Proofs.Ytobljmgoengofaa.TlvPlain
-- printed for this claim by a program (pall.sh)
-- mended by fixpz.py
namespace Go.Proofs.Ytobljmgoengofaa.PZ
open Go.RowKit Go.Proofs.YtobljmgoengofaaW.PrintWords Go.Proofs.YtobljmgoengofaaW.PrintLast Go.Proofs.YtobljmgoengofaaW.PrintMore
attribute [local go_sem] max2_int min2_int max_two min_two max_three min_three max_four min_four   -- for this text's walks alone
set_option linter.unusedVariables false
set_option linter.unusedSimpArgs false

/-! ### tlv_Num: function 52 -/
mutual
def tlv_Num.l0 : Nat → Int → Int → Int → Option (List Int)
 | 0, _, _, _ => none
 | k + 1, x0, x3, x4 => if x4 > 0 then (tlv_Num.l0 k x0 (wrap64 (x3 + 1)) (x4 / 256)) else (if 0 ≤ (wrap64 (1 + x3)) then (if (wrap64 (1 + x3) : Int).toNat ≤ 281474976710656 then ((some (List.replicate (wrap64 (1 + x3) : Int).toNat 0 : List Int)).bind fun y101 => (if 0 < (y101.length : Int) then (tlv_Num.l1 k x0 (y101.set (0 : Int).toNat ((x3) % 256)) x3) else (none))) else (none)) else (none))
def tlv_Num.l1 : Nat → Int → List Int → Int → Option (List Int)
 | 0, _, _, _ => none
 | k + 1, x0, x5, x6 => if x6 > 0 then (if 0 ≤ x6 then (if x6 < (x5.length : Int) then (tlv_Num.l1 k (x0 / 256) (x5.set (x6 : Int).toNat ((x0) % 256)) (wrap64 (x6 - 1))) else (none)) else (none)) else (some x5)
end
def tlv_Num.f (k : Nat) (a0 : Int) : Option (List Int) := tlv_Num.l0 k a0 0 a0
set_option maxHeartbeats 8000000 in
set_option maxRecDepth 100000 in
theorem tlv_Num.calls (k : Nat) (a0 : Int) (r : List Int) (w : World) (h : tlv_Num.f k a0 = some r) :
  Calls Try.prog 52 #[.int .u64 a0] w fun e w' => ∃ v0_ : Value, e = .returned (v0_) ∧ Kd.R (Kd.int .u8) 5 w' w.heap.size (fun _ => True) v0_ r ∧ Below w.heap.size w w' := by
 have HB := Aside0.mk (Below.refl w.heap.size w)
 have H : (tlv_Num.l0 k a0 0 a0) = some r := h
 clear h
 have H' := Aside0.mk H
 clear H
 go_enter Try.func52, Try.ntmps52
 go_wp2
 go_loopg [3, 4] k (fun kq v3 v4 w' => ∃ (x3_1 : Int) (x4_1 : Int), v3 = .int .i64 x3_1 ∧ v4 = .int .u64 x4_1 ∧ Aside0 (tlv_Num.l0 kq a0 x3_1 x4_1 = some r) ∧ Aside0 (kq ≤ k) ∧ Aside0 (Below w.heap.size w w'))
 case atStart => exact ⟨(0), (a0), (by first | rfl | (simp; done) | (simp [*]; done)), (by first | rfl | (simp; done) | (simp [*]; done)), H', ⟨Nat.le_refl _⟩, ⟨by repeat (first | (with_reducible first | exact HB.out | apply below_alloc | apply pw_below_drewN | apply below_drew1) | exact HB.out)⟩⟩
 case round =>
  clear H'
  obtain ⟨x3_1, x4_1, rfl, rfl, HA, HK1, HB⟩ := hrel
  cases gk with
  | zero => exact absurd HA.out (by simp [tlv_Num.l0])
  | succ k1 =>
   have H := HA.out
   clear HA
   simp only [tlv_Num.l0] at H
   by_cases c2 : x4_1 > 0
   ·rw [if_pos c2] at H
    have c2b0 : decide (0 < x4_1) = true := decide_eq_true c2
    clear c2
    have H' := Aside0.mk H
    clear H
    go_wp2
    go_roundg k1
    case measure => have := HK1.out; omega
    case rel => exact ⟨(wrap64 (x3_1 + 1)), (x4_1 / 256), (by first | rfl | (simp; done) | (simp [*]; done)), (by first | rfl | (simp; done) | (simp [*]; done)), H', ⟨by have := HK1.out; omega⟩, ⟨by repeat (first | (with_reducible first | exact HB.out | apply below_alloc | apply pw_below_drewN | apply below_drew1) | exact HB.out)⟩⟩
   ·rw [if_neg c2] at H
    have c2b0 : decide (0 < x4_1) = false := decide_eq_false c2
    clear c2
    obtain ⟨ji3, hji3⟩ : ∃ j_ : Int, (wrap64 (1 + x3_1)) = j_ := ⟨_, rfl⟩
    replace H : (if 0 ≤ (ji3) then (if (ji3 : Int).toNat ≤ 281474976710656 then ((some (List.replicate (ji3 : Int).toNat 0 : List Int)).bind fun y101 => (if 0 < (y101.length : Int) then (tlv_Num.l1 k1 a0 (y101.set (0 : Int).toNat ((x3_1) % 256)) x3_1) else (none))) else (none)) else (none)) = some r := by first | (rw [hji3] at H; exact H) | (simp only [hji3] at H ⊢; exact H)
    have hji3w : (IntKind.i64.wrap (1 + x3_1)) = ji3 := (i64_w _).trans hji3
    by_cases c4 : 0 ≤ (ji3)
    ·rw [if_pos c4] at H
     have c4b0 := eq_true c4
     have c4b1 : decide (0 ≤ (ji3)) = true := decide_eq_true c4
     clear c4
     by_cases c5 : (ji3 : Int).toNat ≤ 281474976710656
     ·rw [if_pos c5] at H
      have c5b0 := eq_true c5
      have c5b1 : decide ((ji3 : Int).toNat ≤ 281474976710656) = true := decide_eq_true c5
      clear c5
      obtain ⟨y101, hy101⟩ : ∃ y_ : List Int, y_ = (List.replicate (ji3 : Int).toNat 0) := ⟨_, rfl⟩
      replace H : (if 0 < (y101.length : Int) then (tlv_Num.l1 k1 a0 (y101.set (0 : Int).toNat ((x3_1) % 256)) x3_1) else (none)) = some r := by first | (rw [hy101]; with_reducible exact H) | (have H2_ := (Option.bind_some _ _).symm.trans H; rw [hy101]; with_reducible exact H2_) | (have H2_ := (Option.bind_some _ _).symm.trans H; with_reducible exact H2_) | with_reducible exact H | (rw [hy101]; exact H) | exact H
      have Ny101 := Aside0.mk hy101
      clear hy101
      by_cases c6 : 0 < (y101.length : Int)
      ·rw [if_pos c6] at H
       have c6b0 : decide (0 < (y101.length : Int)) = true := decide_eq_true c6
       have c6b1 : decide (0 < y101.length) = true := decide_eq_true (by omega)
       clear c6
       obtain ⟨y104, hy104⟩ : ∃ y_ : List Int, y_ = (y101.set (0 : Int).toNat ((x3_1) % 256)) := ⟨_, rfl⟩
       replace H : (tlv_Num.l1 k1 a0 y104 x3_1) = some r := by first | (rw [hy104]; with_reducible exact H) | (have H2_ := (Option.bind_some _ _).symm.trans H; rw [hy104]; with_reducible exact H2_) | (have H2_ := (Option.bind_some _ _).symm.trans H; with_reducible exact H2_) | with_reducible exact H | (rw [hy104]; exact H) | exact H
       have Ny104 := Aside0.mk hy104
       clear hy104
       have H' := Aside0.mk H
       clear H
       go_wp2_with (first | ((with_reducible refine gate_dst (N := 16) rfl ?_); refine Kd.R_make (Kd.int .u8) _ 5 rfl (N := 16) rfl 22 _ _ rfl ji3 rfl rfl Try.underlying22 (.int .u8 0) 1 info5 rfl (by decide) (by omega) 0 (ok := fun _ => True) (okp := fun _ => True) rfl (fun _ hk => hk) trivial (of_decide_eq_true (by first | (with_reducible assumption) | assumption)) (Nat.le_trans (Nat.mul_le_mul_right _ (of_decide_eq_true (by first | (with_reducible assumption) | assumption) : ji3.toNat ≤ 281474976710656)) (by omega)) (Below.refl _ _) (Nat.le_refl _) ?_; intro v102 w8 ho9 hb hg_ hnew_; clear hg_ hnew_; (first | rw [← Ny101.out] at ho9 | (simp only [Int.reduceToNat] at ho9; rw [← Ny101.out] at ho9)); have n0_ := Aside0.mk (Kd.R_lower ho9 (below_size (by repeat (first | (with_reducible first | exact HB.out | apply below_alloc | apply pw_below_drewN | apply below_drew1) | exact HB.out)))); have n1_ := Aside0.mk (below_step (by repeat (first | (with_reducible first | exact HB.out | apply below_alloc | apply pw_below_drewN | apply below_drew1) | exact HB.out)) hb); clear HB; have HO103 := n0_; have HB := n1_; clear n0_ n1_; clear hb ho9; have p7 : 0 ≤ (0 : Int) := (by omega); have q7 : (0 : Int) < ((y101.length : Int) : Int) := of_decide_eq_true (by first | (with_reducible assumption) | assumption); have qi7 : (0 < y101.length) = True := eq_true (by omega); obtain ⟨go7, co7, eo7, gb7, gl7, cl7, HG7⟩ := Kd.R_form HO103.out (by omega); (first | cases eo7 | (injection eo7 with ea_ en_ ec_; (first | subst ea_ | (injection ea_ with ea_; subst ea_)); subst ec_; clear en_)); have GB7 := Aside0.mk gb7; have GG7 := Aside0.mk HG7; clear gb7 gl7 HG7; obtain ⟨hx7_0, hf7_0⟩ := Kd.R_celln 0 HO103.out (0 : Int) p7 q7; (try rw [show ((0 : Int)).toNat = 0 from rfl] at hx7_0); (try simp only [Nat.reduceMul, Nat.zero_mul, Nat.zero_add, Nat.reduceAdd] at hx7_0); (try rw [show ((0 : Int)).toNat = 0 from rfl] at hf7_0); (try simp only [Nat.reduceMul, Nat.zero_mul, Nat.zero_add, Nat.reduceAdd] at hf7_0); replace p7 := eq_true p7; replace q7 := eq_true q7; obtain ⟨hy10_, hz10_⟩ := Kd.R_celln 0 HO103.out (0 : Int) (by omega) (of_decide_eq_true (by first | (with_reducible assumption) | assumption)); (try simp only [Int.reduceToNat, Int.toNat_zero, Int.toNat_ofNat, Nat.reduceMul, Nat.zero_mul, Nat.zero_add] at hy10_ hz10_); (try rw [show ((0 : Int)).toNat = 0 from rfl] at hy10_); (try rw [show ((0 : Int)).toNat = 0 from rfl] at hz10_); have HP10 := Kd.R_putg HO103.out (0 : Int) ((x3_1) % 256)) | ((with_reducible refine gate_store (t := 5) (p := 20) rfl ?_); refine store_event (t := 5) (p := 20) (v := ?vo_w11) (w1 := (w8.setCell ⟨go7, (0 : Int).toNat, none⟩ (.int .u8 ((x3_1) % 256)))) ?hg ?ho ?hn ?hr ?_; (case ho => rfl); (case hg => rfl); (case hn => rfl); (case hr => first | (go_simp; done) | (go_simp; rfl)); intro w11 hw; have hg : w8.grownBy w11 (some go7) := (by rw [hw]; exact HP10.2); have hp_ : Kd.R (Kd.int .u8) 5 w11 w.heap.size (fun _ => True) (.slice (some ⟨go7, 0, none⟩) y101.length co7) y104 := (by rw [hw, Ny104.out]; exact HP10.1); clear HP10; have n0_ := Aside0.mk (hp_); have n1_ := Aside0.mk ((by rw [hw]; exact below_set (HB.out) GB7.out : Below w.heap.size w w11)); clear HO103; clear HB; have HO103 := n0_; have HB := n1_; clear n0_ n1_; clear hg hw hp_))
       go_loopg [0, 6] k1 (fun kq v0 v6 w' => ∃ (x0_2 : Int) (x5_2 : List Int) (x6_2 : Int), v0 = .int .u64 x0_2 ∧ v6 = .int .i64 x6_2 ∧ Aside0 (tlv_Num.l1 kq x0_2 x5_2 x6_2 = some r) ∧ Aside0 (kq ≤ k1) ∧ Aside0 (Kd.R (Kd.int .u8) 5 w' w.heap.size (fun _ => True) (.slice (some ⟨go7, 0, none⟩) y101.length co7) x5_2) ∧ Aside0 (Below w.heap.size w w'))
       case atStart => exact ⟨(a0), (y104), (x3_1), (by first | rfl | (simp; done) | (simp [*]; done)), (by first | rfl | (simp; done) | (simp [*]; done)), H', ⟨Nat.le_refl _⟩, ⟨by (with_reducible repeat (first | apply Kd.R_alloc | apply Kd.R_drewN | apply Kd.R_drew)); exact HO103.out⟩, ⟨by repeat (first | (with_reducible first | exact HB.out | apply below_alloc | apply pw_below_drewN | apply below_drew1) | exact HB.out)⟩⟩
       case round =>
        clear H'
        (try clear c2);(try clear c2b0);(try clear p2);(try clear c4);(try clear c4b0);(try clear c4b1);(try clear c5);(try clear c5b0);(try clear c5b1);(try clear c6);(try clear c6b0);(try clear c6b1);(try clear p6);(try clear p7);(try clear q7);(try clear hx7);(try clear qi7);(try clear hf7);(try clear hx7_0);(try clear p7);(try clear q7)
        obtain ⟨x0_2, x5_2, x6_2, rfl, rfl, HA, HK2, HO_5, HB⟩ := hrel
        have hl5_2 := (Kd.R_reads' HO_5.out).1
        rw [hl5_2] at HO_5
        (try simp only [hl5_2])
        cases gk with
        | zero => exact absurd HA.out (by simp [tlv_Num.l1])
        | succ k2 =>
         have H := HA.out
         clear HA
         simp only [tlv_Num.l1] at H
         by_cases c12 : x6_2 > 0
         ·rw [if_pos c12] at H
          have c12b0 : decide (0 < x6_2) = true := decide_eq_true c12
          clear c12
          by_cases c13 : 0 ≤ x6_2
          ·rw [if_pos c13] at H
           have c13b0 : decide (0 ≤ x6_2) = true := decide_eq_true c13
           clear c13
           by_cases c14 : x6_2 < (x5_2.length : Int)
           ·rw [if_pos c14] at H
            have c14b0 : decide (x6_2 < (x5_2.length : Int)) = true := decide_eq_true c14
            clear c14
            obtain ⟨y105, hy105⟩ : ∃ y_ : List Int, y_ = (x5_2.set (x6_2 : Int).toNat ((x0_2) % 256)) := ⟨_, rfl⟩
            replace H : (tlv_Num.l1 k2 (x0_2 / 256) y105 (wrap64 (x6_2 - 1))) = some r := by first | (rw [hy105]; with_reducible exact H) | (have H2_ := (Option.bind_some _ _).symm.trans H; rw [hy105]; with_reducible exact H2_) | (have H2_ := (Option.bind_some _ _).symm.trans H; with_reducible exact H2_) | with_reducible exact H | (rw [hy105]; exact H) | exact H
            have Ny105 := Aside0.mk hy105
            clear hy105
            have H' := Aside0.mk H
            clear H
            have p15 : 0 ≤ (x6_2 : Int) := of_decide_eq_true (by first | (with_reducible assumption) | assumption)
            have q15 : (x6_2 : Int) < ((x5_2.length : Int) : Int) := of_decide_eq_true (by first | (with_reducible assumption) | assumption)
            obtain ⟨hx15_0, hf15_0⟩ := Kd.R_celln 0 HO_5.out (x6_2 : Int) p15 q15
            replace p15 := eq_true p15
            replace q15 := eq_true q15
            have HP16 := Kd.R_putg HO_5.out (x6_2 : Int) ((x0_2) % 256)
            go_wp2_with (first | ((with_reducible refine gate_store (t := 5) (p := 30) rfl ?_); refine store_event (t := 5) (p := 30) (v := ?vo_w17) (w1 := (wr.setCell ⟨go7, (x6_2 : Int).toNat, none⟩ (.int .u8 ((x0_2) % 256)))) ?hg ?ho ?hn ?hr ?_; (case ho => rfl); (case hg => rfl); (case hn => rfl); (case hr => first | (go_simp; done) | (go_simp; rfl)); intro w17 hw; have hg : wr.grownBy w17 (some go7) := (by rw [hw]; exact HP16.2); have hp_ : Kd.R (Kd.int .u8) 5 w17 w.heap.size (fun _ => True) (.slice (some ⟨go7, 0, none⟩) x5_2.length co7) y105 := (by rw [hw, Ny105.out]; exact HP16.1); clear HP16; have n0_ := Aside0.mk (hp_); have n1_ := Aside0.mk ((by rw [hw]; exact below_set (HB.out) GB7.out : Below w.heap.size w w17)); clear HO_5; clear HB; have HO_5 := n0_; have HB := n1_; clear n0_ n1_; clear hg hw hp_))
            (try simp only [← hl5_2])
            go_roundg k2
            case measure => have := HK1.out; have := HK2.out; omega
            case rel => exact ⟨(x0_2 / 256), (y105), (wrap64 (x6_2 - 1)), (by first | rfl | (simp; done) | (simp [*]; done)), (by first | rfl | (simp; done) | (simp [*]; done)), H', ⟨by have := HK1.out; have := HK2.out; omega⟩, ⟨by (try simp only [hl5_2]); (with_reducible repeat (first | apply Kd.R_alloc | apply Kd.R_drewN | apply Kd.R_drew)); exact HO_5.out⟩, ⟨by repeat (first | (with_reducible first | exact HB.out | apply below_alloc | apply pw_below_drewN | apply below_drew1) | exact HB.out)⟩⟩
           ·rw [if_neg c14] at H
            exact absurd H (by simp)
          ·rw [if_neg c13] at H
           exact absurd H (by simp)
         ·rw [if_neg c12] at H
          have c12b0 : decide (0 < x6_2) = false := decide_eq_false c12
          clear c12
          obtain rfl := Option.some.inj H
          go_wp2
          go_ret
          exact ⟨_, by first | rfl | (simp [errW_none, errW_some] <;> rfl) | (simp only [← hji3]; first | rfl | (simp [errW_none, errW_some] <;> rfl)) | (simp [*, errW_none, errW_some] <;> rfl), by (with_reducible repeat (first | apply Kd.R_alloc | apply Kd.R_drewN | apply Kd.R_drew)); exact HO_5.out, by repeat (first | (with_reducible first | exact HB.out | apply below_alloc | apply pw_below_drewN | apply below_drew1) | exact HB.out)⟩
      ·rw [if_neg c6] at H
       exact absurd H (by simp)
     ·rw [if_neg c5] at H
      exact absurd H (by simp)
    ·rw [if_neg c4] at H
     exact absurd H (by simp)

end Go.Proofs.Ytobljmgoengofaa.PZ
-- printed for this claim by a program (pall.sh)
-- mended by fixpz.py
namespace Go.Proofs.Ytobljmgoengofaa.PZ
open Go.RowKit Go.Proofs.YtobljmgoengofaaW.PrintWords Go.Proofs.YtobljmgoengofaaW.PrintLast Go.Proofs.YtobljmgoengofaaW.PrintMore
attribute [local go_sem] max2_int min2_int max_two min_two max_three min_three max_four min_four   -- for this text's walks alone
set_option linter.unusedVariables false
set_option linter.unusedSimpArgs false

/-! ### tlv_Text: function 50 -/
def tlv_Text.f (k : Nat) (l0 : List Int) : Option (List Int) := (tlv_Num.f k (IntKind.u64.wrap ((l0.length : Int)))).bind fun t101 => (if t101.length + l0.length < 140737488355328 then (some (t101 ++ l0)) else (none))
set_option maxHeartbeats 8000000 in
set_option maxRecDepth 100000 in
theorem tlv_Text.calls (k : Nat) (A0 : Option Addr) (c0 : Nat) (l0 : List Int) (r : List Int) (w : World) (hr0 : Kd.C (Kd.int .u8) w A0 l0.length l0) (hc0 : l0.length ≤ c0) (h : tlv_Text.f k l0 = some r) :
  Calls Try.prog 50 #[.slice A0 l0.length c0] w fun e w' => ∃ v0_ : Value, e = .returned (v0_) ∧ Kd.R (Kd.int .u8) 5 w' w.heap.size (fun _ => True) v0_ r ∧ Below w.heap.size w w' := by
 have HR0 := Aside0.mk hr0
 have HC0 := Aside0.mk hc0
 clear hr0 hc0
 have HB := Aside0.mk (Below.refl w.heap.size w)
 have H : ((tlv_Num.f k (IntKind.u64.wrap ((l0.length : Int)))).bind fun t101 => (if t101.length + l0.length < 140737488355328 then (some (t101 ++ l0)) else (none))) = some r := h
 clear h
 replace H := Option.bind_eq_some_iff.mp H
 obtain ⟨t101, A20, H⟩ := H
 replace H : (if t101.length + l0.length < 140737488355328 then (some (t101 ++ l0)) else (none)) = some r := H
 have A2 := Aside0.mk A20
 clear A20
 by_cases c3 : t101.length + l0.length < 140737488355328
 ·rw [if_pos c3] at H
  have LMc3 := Aside0.mk c3
  clear c3
  obtain ⟨y104, hy104⟩ : ∃ y_ : List Int, y_ = (t101 ++ l0) := ⟨_, rfl⟩
  replace H : (some y104) = some r := by first | (rw [hy104]; with_reducible exact H) | (have H2_ := (Option.bind_some _ _).symm.trans H; rw [hy104]; with_reducible exact H2_) | (have H2_ := (Option.bind_some _ _).symm.trans H; with_reducible exact H2_) | with_reducible exact H | (rw [hy104]; exact H) | exact H
  have Ny104 := Aside0.mk hy104
  clear hy104
  obtain rfl := Option.some.inj H
  go_enter Try.func50, Try.ntmps50
  go_wp2_with (first | ((with_reducible refine gate_callee (f := 52) rfl ?_); refine goesL_ (some 6) rfl rfl Try.func52 (by kernel_rfl) rfl #[.int .u64 (IntKind.u64.wrap ((l0.length : Int)))] rfl (by (try simp only [List.map_toArray, List.map_cons, List.map_nil]); first | done | rfl | (simp only [List.length_drop, List.length_take]; rfl)) ?_; (with_reducible refine (tlv_Num.calls k (IntKind.u64.wrap ((l0.length : Int))) t101 _ A2.out).mono ?_); rintro e w4 ⟨v102, rfl, ho0, hb⟩; refine ⟨_, rfl, ?_⟩; have n0_ := Aside0.mk (Kd.R_lower ho0 (below_size (by repeat (first | (with_reducible first | exact HB.out | apply below_alloc | apply pw_below_drewN | apply below_drew1) | exact HB.out)))); have n1_ := Aside0.mk (below_step (by repeat (first | (with_reducible first | exact HB.out | apply below_alloc | apply pw_below_drewN | apply below_drew1) | exact HB.out)) hb); clear HB; have HO103 := n0_; have HB := n1_; clear n0_ n1_; (try clear hb); (try clear hb2); (try clear hk); (try clear hi); (try clear ho0)) | ((with_reducible refine gate_builtin (b := .append) (xs := #[.tmp 6, .tmp 7]) rfl ?_); at_builtin; refine Kd.R_append_rows (Kd.int .u8) (w0 := w) w.heap.size rfl (.tmp 6) (.tmp 7) 22 5 (.int .u8 0) 1 rfl Try.underlying22 info5 rfl (by decide) (by omega) v102 t101 l0 _ _ _ (fun _ => True) (fun _ => False) rfl rfl ?aO ?aR (fun _ _ h => h) (fun _ h => h.elim) ?aF ?aB ?aS ?aL ?_; (case aR => repeat (first | exact (Kd.C_below HR0.out HB.out) | (with_reducible refine Kd.C_alloc ?_ _) | (with_reducible refine Kd.C_drewN ?_ _) | (with_reducible refine Kd.C_drew ?_))); (case aB => exact (by repeat (first | (with_reducible first | exact HB.out | apply below_alloc | apply pw_below_drewN | apply below_drew1) | exact HB.out))); (case aF => exact (fun _ _ => trivial)); (case aO => exact (by (with_reducible repeat (first | apply Kd.R_alloc | apply Kd.R_drewN | apply Kd.R_drew)); exact HO103.out)); (case aS => exact (below_size (by repeat (first | (with_reducible first | exact HB.out | apply below_alloc | apply pw_below_drewN | apply below_drew1) | exact HB.out)))); (case aL => have := LMc3.out; omega); intro v105 w5 ho hb hg hat; rw [← Ny104.out] at ho; have n0_ := Aside0.mk (hb); have n1_ := Aside0.mk (ho); clear HB; clear HO103; have HB := n0_; have HO106 := n1_; clear n0_ n1_; clear ho hb hg hat))
  go_ret
  exact ⟨_, by first | rfl | (simp [errW_none, errW_some] <;> rfl) | (simp [*, errW_none, errW_some] <;> rfl), by (with_reducible repeat (first | apply Kd.R_alloc | apply Kd.R_drewN | apply Kd.R_drew)); exact HO106.out, by repeat (first | (with_reducible first | exact HB.out | apply below_alloc | apply pw_below_drewN | apply below_drew1) | exact HB.out)⟩
 ·rw [if_neg c3] at H
  exact absurd H (by simp)

end Go.Proofs.Ytobljmgoengofaa.PZ
-- printed for this claim by a program (pall.sh)
-- mended by fixpz.py
namespace Go.Proofs.Ytobljmgoengofaa.PZ
open Go.RowKit Go.Proofs.YtobljmgoengofaaW.PrintWords Go.Proofs.YtobljmgoengofaaW.PrintLast Go.Proofs.YtobljmgoengofaaW.PrintMore
attribute [local go_sem] max2_int min2_int max_two min_two max_three min_three max_four min_four   -- for this text's walks alone
set_option linter.unusedVariables false
set_option linter.unusedSimpArgs false

/-! ### tlv_Int: function 54 -/
def tlv_Int.f (k : Nat) (a0 : Int) : Option (List Int) := (tlv_Num.f k (IntKind.u64.wrap (a0))).bind fun t101 => (some t101)
set_option maxHeartbeats 8000000 in
set_option maxRecDepth 100000 in
theorem tlv_Int.calls (k : Nat) (a0 : Int) (r : List Int) (w : World) (h : tlv_Int.f k a0 = some r) :
  Calls Try.prog 54 #[.int .i64 a0] w fun e w' => ∃ v0_ : Value, e = .returned (v0_) ∧ Kd.R (Kd.int .u8) 5 w' w.heap.size (fun _ => True) v0_ r ∧ Below w.heap.size w w' := by
 have HB := Aside0.mk (Below.refl w.heap.size w)
 have H : ((tlv_Num.f k (IntKind.u64.wrap (a0))).bind fun t101 => (some t101)) = some r := h
 clear h
 replace H := Option.bind_eq_some_iff.mp H
 obtain ⟨t101, A20, H⟩ := H
 replace H : (some t101) = some r := H
 have A2 := Aside0.mk A20
 clear A20
 obtain rfl := Option.some.inj H
 go_enter Try.func54, Try.ntmps54
 go_wp2_with (first | ((with_reducible refine gate_callee (f := 52) rfl ?_); refine goesL_ (some 5) rfl rfl Try.func52 (by kernel_rfl) rfl #[.int .u64 (IntKind.u64.wrap (a0))] rfl (by (try simp only [List.map_toArray, List.map_cons, List.map_nil]); first | done | rfl | (simp only [List.length_drop, List.length_take]; rfl)) ?_; (with_reducible refine (tlv_Num.calls k (IntKind.u64.wrap (a0)) t101 _ A2.out).mono ?_); rintro e w3 ⟨v102, rfl, ho0, hb⟩; refine ⟨_, rfl, ?_⟩; have n0_ := Aside0.mk (Kd.R_lower ho0 (below_size (by repeat (first | (with_reducible first | exact HB.out | apply below_alloc | apply pw_below_drewN | apply below_drew1) | exact HB.out)))); have n1_ := Aside0.mk (below_step (by repeat (first | (with_reducible first | exact HB.out | apply below_alloc | apply pw_below_drewN | apply below_drew1) | exact HB.out)) hb); clear HB; have HO103 := n0_; have HB := n1_; clear n0_ n1_; (try clear hb); (try clear hb2); (try clear hk); (try clear hi); (try clear ho0)))
 go_ret
 exact ⟨_, by first | rfl | (simp [errW_none, errW_some] <;> rfl) | (simp [*, errW_none, errW_some] <;> rfl), by (with_reducible repeat (first | apply Kd.R_alloc | apply Kd.R_drewN | apply Kd.R_drew)); exact HO103.out, by repeat (first | (with_reducible first | exact HB.out | apply below_alloc | apply pw_below_drewN | apply below_drew1) | exact HB.out)⟩

end Go.Proofs.Ytobljmgoengofaa.PZ
-- printed for this claim by a program (pall.sh)
-- mended by fixpz.py
namespace Go.Proofs.Ytobljmgoengofaa.PZ
open Go.RowKit Go.Proofs.YtobljmgoengofaaW.PrintWords Go.Proofs.YtobljmgoengofaaW.PrintLast Go.Proofs.YtobljmgoengofaaW.PrintMore
attribute [local go_sem] max2_int min2_int max_two min_two max_three min_three max_four min_four   -- for this text's walks alone
set_option linter.unusedVariables false
set_option linter.unusedSimpArgs false

/-! ### tlv_All: function 56 -/
def tlv_All.l0 : Nat → List Int → List (List Int) → Int → Int → Option (List Int)
 | 0, _, _, _, _ => none
 | k + 1, x3, x6, x7, x8 => if x8 < x7 then (if 0 ≤ x8 then (if x8 < (x6.length : Int) then (if x3.length + (rd_L3 x6 x8).length < 140737488355328 then (tlv_All.l0 k (x3 ++ (rd_L3 x6 x8)) x6 x7 (wrap64 (x8 + 1))) else (none)) else (none)) else (none)) else (some x3)
def tlv_All.f (k : Nat) (l0 : List (List Int)) : Option (List Int) := tlv_All.l0 k ([] : List Int) l0 (l0.length : Int) 0
set_option maxHeartbeats 8000000 in
set_option maxRecDepth 100000 in
theorem tlv_All.calls (k : Nat) (A0 : Option Addr) (c0 : Nat) (l0 : List (List Int)) (r : List Int) (w : World) (hr0 : Kd.C (Kd.slice 5 (Kd.int .u8)) w A0 l0.length l0) (hc0 : l0.length ≤ c0) (h : tlv_All.f k l0 = some r) :
  Calls Try.prog 56 #[.slice A0 l0.length c0] w fun e w' => ∃ v0_ : Value, e = .returned (v0_) ∧ Kd.R (Kd.int .u8) 5 w' w.heap.size (fun _ => True) v0_ r ∧ Below w.heap.size w w' := by
 have HR0 := Aside0.mk hr0
 have HC0 := Aside0.mk hc0
 clear hr0 hc0
 have HB := Aside0.mk (Below.refl w.heap.size w)
 have H : (tlv_All.l0 k ([] : List Int) l0 (l0.length : Int) 0) = some r := h
 clear h
 have H' := Aside0.mk H
 clear H
 go_enter Try.func56, Try.ntmps56
 go_wp2
 go_loopg [3, 8] k (fun kq v3 v8 w' => ∃ (x3_1 : List Int) (x8_1 : Int), v8 = .int .i64 x8_1 ∧ Aside0 (tlv_All.l0 kq x3_1 l0 (l0.length : Int) x8_1 = some r) ∧ Aside0 (kq ≤ k) ∧ Aside0 (Kd.R (Kd.int .u8) 5 w' w.heap.size (fun _ => True) v3 x3_1) ∧ Aside0 (Below w.heap.size w w'))
 case atStart => exact ⟨(([] : List Int)), (0), (by first | rfl | (simp; done) | (simp [*]; done)), H', ⟨Nat.le_refl _⟩, ⟨by first | exact Kd.R_nil _ _ _ _ _ | exact Kd.N_nil _ _ _ _ _ | exact Kd.V_nil _ _ _ _ _ | exact Kd.Q_nil _ _ _ _ _ | exact Kd.S_nil _ _ _ _ _⟩, ⟨by repeat (first | (with_reducible first | exact HB.out | apply below_alloc | apply pw_below_drewN | apply below_drew1) | exact HB.out)⟩⟩
 case round =>
  clear H'
  obtain ⟨x3_1, x8_1, rfl, HA, HK1, HO_3, HB⟩ := hrel
  cases gk with
  | zero => exact absurd HA.out (by simp [tlv_All.l0])
  | succ k1 =>
   have H := HA.out
   clear HA
   simp only [tlv_All.l0] at H
   by_cases c2 : x8_1 < (l0.length : Int)
   ·rw [if_pos c2] at H
    have c2b0 : decide (x8_1 < (l0.length : Int)) = true := decide_eq_true c2
    clear c2
    by_cases c3 : 0 ≤ x8_1
    ·rw [if_pos c3] at H
     have c3b0 : decide (0 ≤ x8_1) = true := decide_eq_true c3
     clear c3
     by_cases c4 : x8_1 < (l0.length : Int)
     ·rw [if_pos c4] at H
      have c4b0 : decide (x8_1 < (l0.length : Int)) = true := decide_eq_true c4
      clear c4
      by_cases c5 : x3_1.length + (rd_L3 l0 x8_1).length < 140737488355328
      ·rw [if_pos c5] at H
       have LMc5 := Aside0.mk c5
       clear c5
       obtain ⟨y102, hy102⟩ : ∃ y_ : List Int, y_ = (x3_1 ++ (rd_L3 l0 x8_1)) := ⟨_, rfl⟩
       replace H : (tlv_All.l0 k1 y102 l0 (l0.length : Int) (wrap64 (x8_1 + 1))) = some r := by first | (rw [hy102]; with_reducible exact H) | (have H2_ := (Option.bind_some _ _).symm.trans H; rw [hy102]; with_reducible exact H2_) | (have H2_ := (Option.bind_some _ _).symm.trans H; with_reducible exact H2_) | with_reducible exact H | (rw [hy102]; exact H) | exact H
       have Ny102 := Aside0.mk hy102
       clear hy102
       have H' := Aside0.mk H
       clear H
       have p101 : 0 ≤ (x8_1 : Int) := of_decide_eq_true (by first | (with_reducible assumption) | assumption)
       have q101 : x8_1 < (l0.length : Int) := of_decide_eq_true (by first | (with_reducible assumption) | assumption)
       obtain ⟨ad101, A101_0, c101_0, e101, hx101_0, hl101_0, hi101_0⟩ := at_L3 HR0.out x8_1 p101 q101
       cases e101
       replace hx101_0 := (HB.out.cell (World.block_lt_of_cell? w _ hx101_0)).trans hx101_0
       have HR101_0 := Aside0.mk hi101_0
       have HC101_0 := Aside0.mk hl101_0
       clear hi101_0 hl101_0
       replace p101 := eq_true p101
       replace q101 := eq_true q101
       go_wp2_with (first | ((with_reducible refine gate_builtin (b := .append) (xs := #[.tmp 12, .tmp 13]) rfl ?_); at_builtin; refine Kd.R_append_rows (Kd.int .u8) (w0 := w) w.heap.size rfl (.tmp 12) (.tmp 13) 22 5 (.int .u8 0) 1 rfl Try.underlying22 info5 rfl (by decide) (by omega) u3 x3_1 (rd_L3 l0 x8_1) _ _ _ (fun _ => True) (fun _ => False) rfl rfl ?aO ?aR (fun _ _ h => h) (fun _ h => h.elim) ?aF ?aB ?aS ?aL ?_; (case aR => repeat (first | exact (Kd.C_below HR101_0.out HB.out) | (with_reducible refine Kd.C_alloc ?_ _) | (with_reducible refine Kd.C_drewN ?_ _) | (with_reducible refine Kd.C_drew ?_))); (case aB => exact (by repeat (first | (with_reducible first | exact HB.out | apply below_alloc | apply pw_below_drewN | apply below_drew1) | exact HB.out))); (case aF => exact (fun _ _ => trivial)); (case aO => exact (by (with_reducible repeat (first | apply Kd.R_alloc | apply Kd.R_drewN | apply Kd.R_drew)); exact HO_3.out)); (case aS => exact (below_size (by repeat (first | (with_reducible first | exact HB.out | apply below_alloc | apply pw_below_drewN | apply below_drew1) | exact HB.out)))); (case aL => have := LMc5.out; omega); intro v103 w6 ho hb hg hat; rw [← Ny102.out] at ho; have n0_ := Aside0.mk (hb); have n1_ := Aside0.mk (ho); clear HB; clear HO_3; have HB := n0_; have HO104 := n1_; clear n0_ n1_; clear ho hb hg hat))
       go_roundg k1
       case measure => have := HK1.out; omega
       case rel => exact ⟨(y102), (wrap64 (x8_1 + 1)), (by first | rfl | (simp; done) | (simp [*]; done)), H', ⟨by have := HK1.out; omega⟩, ⟨by (with_reducible repeat (first | apply Kd.R_alloc | apply Kd.R_drewN | apply Kd.R_drew)); exact HO104.out⟩, ⟨by repeat (first | (with_reducible first | exact HB.out | apply below_alloc | apply pw_below_drewN | apply below_drew1) | exact HB.out)⟩⟩
      ·rw [if_neg c5] at H
       exact absurd H (by simp)
     ·rw [if_neg c4] at H
      exact absurd H (by simp)
    ·rw [if_neg c3] at H
     exact absurd H (by simp)
   ·rw [if_neg c2] at H
    have c2b0 : decide (x8_1 < (l0.length : Int)) = false := decide_eq_false c2
    clear c2
    obtain rfl := Option.some.inj H
    go_wp2
    go_ret
    exact ⟨_, by first | rfl | (simp [errW_none, errW_some] <;> rfl) | (simp [*, errW_none, errW_some] <;> rfl), by (with_reducible repeat (first | apply Kd.R_alloc | apply Kd.R_drewN | apply Kd.R_drew)); exact HO_3.out, by repeat (first | (with_reducible first | exact HB.out | apply below_alloc | apply pw_below_drewN | apply below_drew1) | exact HB.out)⟩

end Go.Proofs.Ytobljmgoengofaa.PZ
-- printed for this claim by a program (pall.sh)
-- mended by fixpz.py
namespace Go.Proofs.Ytobljmgoengofaa.PZ
open Go.RowKit Go.Proofs.YtobljmgoengofaaW.PrintWords Go.Proofs.YtobljmgoengofaaW.PrintLast Go.Proofs.YtobljmgoengofaaW.PrintMore
attribute [local go_sem] max2_int min2_int max_two min_two max_three min_three max_four min_four   -- for this text's walks alone
set_option linter.unusedVariables false
set_option linter.unusedSimpArgs false

end Go.Proofs.Ytobljmgoengofaa.PZ
-- printed for this claim by a program (pall.sh)
-- mended by fixpz.py
namespace Go.Proofs.Ytobljmgoengofaa.PZ
open Go.RowKit Go.Proofs.YtobljmgoengofaaW.PrintWords Go.Proofs.YtobljmgoengofaaW.PrintLast Go.Proofs.YtobljmgoengofaaW.PrintMore
attribute [local go_sem] max2_int min2_int max_two min_two max_three min_three max_four min_four   -- for this text's walks alone
set_option linter.unusedVariables false
set_option linter.unusedSimpArgs false

end Go.Proofs.Ytobljmgoengofaa.PZ
-- printed for this claim by a program (pall.sh)
-- mended by fixpz.py
namespace Go.Proofs.Ytobljmgoengofaa.PZ
open Go.RowKit Go.Proofs.YtobljmgoengofaaW.PrintWords Go.Proofs.YtobljmgoengofaaW.PrintLast Go.Proofs.YtobljmgoengofaaW.PrintMore
attribute [local go_sem] max2_int min2_int max_two min_two max_three min_three max_four min_four   -- for this text's walks alone
set_option linter.unusedVariables false
set_option linter.unusedSimpArgs false

end Go.Proofs.Ytobljmgoengofaa.PZ
-- printed for this claim by a program (pall.sh)
-- mended by fixpz.py
namespace Go.Proofs.Ytobljmgoengofaa.PZ
open Go.RowKit Go.Proofs.YtobljmgoengofaaW.PrintWords Go.Proofs.YtobljmgoengofaaW.PrintLast Go.Proofs.YtobljmgoengofaaW.PrintMore
attribute [local go_sem] max2_int min2_int max_two min_two max_three min_three max_four min_four   -- for this text's walks alone
set_option linter.unusedVariables false
set_option linter.unusedSimpArgs false

end Go.Proofs.Ytobljmgoengofaa.PZ
-- printed for this claim by a program (pall.sh)
-- mended by fixpz.py
namespace Go.Proofs.Ytobljmgoengofaa.PZ
open Go.RowKit Go.Proofs.YtobljmgoengofaaW.PrintWords Go.Proofs.YtobljmgoengofaaW.PrintLast Go.Proofs.YtobljmgoengofaaW.PrintMore
attribute [local go_sem] max2_int min2_int max_two min_two max_three min_three max_four min_four   -- for this text's walks alone
set_option linter.unusedVariables false
set_option linter.unusedSimpArgs false

end Go.Proofs.Ytobljmgoengofaa.PZ
/- What the lowest functions come to: numbers and texts as bytes, lists that are the same. -/
namespace Go.Proofs.Ytobljmgoengofaa.Lo
open Go.Proofs.Ytobljmgoengofaa.Base Go.Proofs.Ytobljmgoengofaa.TlvPlain Go.Proofs.Ytobljmgoengofaa.Aid Go.RowKit Go.Proofs.YtobljmgoengofaaW.PrintWords Go.Proofs.YtobljmgoengofaaW.PrintLast Go.Proofs.YtobljmgoengofaaW.PrintMore Go.Proofs.Ytobljmgoengofaa.PZ

/-- A number's bytes, the highest first. -/
def be (n : Nat) : List Int := if n = 0 then [] else be (n / 256) ++ [((n % 256 : Nat) : Int)]
termination_by n
decreasing_by omega
def numB (n : Int) : List Int := ((be n.toNat).length : Int) :: be n.toNat
def textB (l : List Int) : List Int := numB l.length ++ l
def intB (n : Int) : List Int := numB (IntKind.u64.wrap n)
theorem be_zero : be 0 = [] := by unfold be; rfl
theorem be_pos {n : Nat} (h : 0 < n) : be n = be (n / 256) ++ [((n % 256 : Nat) : Int)] := by
  rw [be, if_neg (by omega)]
theorem be_len {k : Nat} : ∀ {n : Nat}, n < 256 ^ k → (be n).length ≤ k := by
  induction k with
  | zero => intro n h; have : n = 0 := by omega
            subst this; rw [be_zero]; simp
  | succ k ih =>
    intro n h
    by_cases h0 : n = 0
    · subst h0; rw [be_zero]; simp
    · rw [be_pos (by omega), List.length_append, List.length_singleton]
      have := ih (n := n / 256) (by rw [Nat.pow_succ] at h; omega)
      omega
theorem be_len8 {n : Int} (h1 : n ≤ 18446744073709551615) : (be n.toNat).length ≤ 8 := be_len (by
  have : (256 : Nat) ^ 8 = 18446744073709551616 := by decide +kernel
  omega)
theorem numB_len {n : Int} (h1 : n ≤ 18446744073709551615) : (numB n).length ≤ 9 := by
  unfold numB; rw [List.length_cons]; have := be_len8 h1; omega
theorem u64_range (n : Int) : 0 ≤ IntKind.u64.wrap n ∧ IntKind.u64.wrap n ≤ 18446744073709551615 := by
  have : IntKind.u64.wrap n = n % 18446744073709551616 := by
    simp [IntKind.wrap, IntKind.signed, IntKind.bits]
  rw [this]; omega

/-! ### Num, as the program has it -/
theorem num_fill (w : Int) : ∀ (i m : Nat) (t : List Int), (be m).length = i → m ≤ 18446744073709551615 → i ≤ 8 →
    Ev (fun k => tlv_Num.l1 k (m : Int) (w :: (List.replicate i 0 ++ t)) (i : Int)) (w :: (be m ++ t)) := by
  intro i
  induction i with
  | zero =>
    intro m t hi hm h8
    refine Ev.step (fun k => by simp only [tlv_Num.l1]; rfl) ?_
    refine neg (by omega) (now ?_)
    have : be m = [] := List.length_eq_zero_iff.1 hi
    rw [this]; rfl
  | succ i ih =>
    intro m t hi hm h8
    have hm0 : 0 < m := by
      rcases Nat.eq_zero_or_pos m with h | h
      · subst h; rw [be_zero] at hi; cases hi
      · exact h
    have hb := be_pos hm0
    refine Ev.step (fun k => by simp only [tlv_Num.l1]; rfl) ?_
    refine pos (by omega) (pos (by omega) (pos (by simp; omega) ?_))
    have e1 : wrap64 (((i + 1 : Nat) : Int) - 1) = (i : Int) := by rw [w64 (by omega) (by omega)]; omega
    have e2 : ((m : Int) % 256) = ((m % 256 : Nat) : Int) := by omega
    have e3 : ((m : Int) / 256) = ((m / 256 : Nat) : Int) := by omega
    have e4 : (w :: (List.replicate (i + 1) 0 ++ t)).set (((i + 1 : Nat) : Int)).toNat ((m : Int) % 256) = w :: (List.replicate i 0 ++ (((m % 256 : Nat) : Int) :: t)) := by
      rw [Int.toNat_natCast, List.set_cons_succ, e2, List.replicate_succ']
      congr 1
      rw [List.append_assoc, List.set_append_right _ _ (by simp)]
      simp
    rw [e1, e3, e4]
    have := ih (m / 256) (((m % 256 : Nat) : Int) :: t) (by rw [hb] at hi; simpa using hi) (by omega) (by omega)
    rw [hb, List.append_assoc]
    exact this
theorem num_count (n : Int) (hn0 : 0 ≤ n) (hn1 : n ≤ 18446744073709551615) : ∀ (m c : Nat), c + (be m).length = (be n.toNat).length → m ≤ 18446744073709551615 →
    Ev (fun k => tlv_Num.l0 k n (c : Int) (m : Int)) (numB n) := by
  intro m
  induction m using Nat.strongRecOn with
  | ind m ih =>
    intro c hc hm
    have h8 := be_len8 hn1
    refine Ev.step (fun k => by simp only [tlv_Num.l0]; rfl) ?_
    by_cases h0 : m = 0
    · subst h0
      rw [be_zero] at hc
      simp only [List.length_nil, Nat.add_zero] at hc
      have e1 : wrap64 (1 + (c : Int)) = ((c + 1 : Nat) : Int) := by rw [w64 (by omega) (by omega)]; omega
      rw [e1, Int.toNat_natCast]
      refine neg (by omega) (pos (by omega) (pos (by omega) ?_))
      refine bindSome rfl (pos (by simp) ?_)
      have e2 : (List.replicate (c + 1) (0 : Int)).set ((0 : Int)).toNat ((c : Int) % 256) = (c : Int) :: (List.replicate c 0 ++ []) := by
        rw [List.replicate_succ, show ((0 : Int)).toNat = 0 from rfl, List.set_cons_zero, List.append_nil, Int.emod_eq_of_lt (by omega) (by omega)]
      rw [e2]
      obtain ⟨q, rfl⟩ := Int.eq_ofNat_of_zero_le hn0
      have := num_fill (c : Int) c q [] (by rw [hc]; rfl) (by omega) (by omega)
      unfold numB
      rw [Int.toNat_natCast] at hc ⊢
      rw [← hc]
      simpa using this
    · refine pos (by omega) ?_
      have hb := be_pos (show 0 < m by omega)
      rw [hb, List.length_append, List.length_singleton] at hc
      have e1 : wrap64 ((c : Int) + 1) = ((c + 1 : Nat) : Int) := by rw [w64 (by omega) (by omega)]; omega
      have e3 : ((m : Int) / 256) = ((m / 256 : Nat) : Int) := by omega
      rw [e1, e3]
      exact ih (m / 256) (by omega) (c + 1) (by omega) (by omega)
theorem num_ev (n : Int) (hn0 : 0 ≤ n) (hn1 : n ≤ 18446744073709551615) : Ev (fun k => tlv_Num.f k n) (numB n) := by
  have := num_count n hn0 hn1 n.toNat 0 (by omega) (by omega)
  rw [show ((n.toNat : Nat) : Int) = n from by omega] at this
  exact this
/-! ### texts and ints -/
theorem len_u64 (l : List Int) (h : l.length < 140737488355000) : IntKind.u64.wrap ((l.length : Nat) : Int) = l.length := u64 (by omega) (by omega)
theorem text_ev (l : List Int) (h : l.length < 140737488355000) : Ev (fun k => tlv_Text.f k l) (textB l) := by
  unfold tlv_Text.f
  rw [len_u64 l h]
  refine evBind (num_ev _ (by omega) (by omega)) (pos ?_ (now rfl))
  have := numB_len (n := (l.length : Int)) (by omega)
  omega
theorem int_ev (n : Int) : Ev (fun k => tlv_Int.f k n) (intB n) := by
  unfold tlv_Int.f
  exact evBind (num_ev _ (u64_range n).1 (u64_range n).2) (now rfl)
theorem all_loop (l : List (List Int)) (hl : l.length ≤ 4611686018427387904) (ht : l.flatten.length < 140737488355328) : ∀ (d i : Nat), i + d = l.length →
    Ev (fun k => tlv_All.l0 k (l.take i).flatten l (l.length : Int) (i : Int)) l.flatten := by
  intro d
  induction d with
  | zero =>
    intro i hi
    refine Ev.step (fun k => by simp only [tlv_All.l0]; rfl) ?_
    refine neg (by omega) (now ?_)
    rw [List.take_of_length_le (by omega)]
  | succ d ih =>
    intro i hi
    have hil : i < l.length := by omega
    refine Ev.step (fun k => by simp only [tlv_All.l0]; rfl) ?_
    have e : rd_L3 l (i : Int) = l[i] := by simp [rd_L3, List.getD_eq_getElem?_getD, List.getElem?_eq_getElem hil]
    have e2 : (l.take i).flatten ++ l[i] = (l.take (i + 1)).flatten := by rw [take_snoc l i hil, List.flatten_append]; simp
    rw [e, inc hil hl, e2]
    refine pos (by omega) (pos (by omega) (pos (by omega) (pos ?_ (ih (i + 1) (by omega)))))
    have h1 : (l.take i).flatten.length + l[i].length = (l.take (i + 1)).flatten.length := by rw [← e2, List.length_append]
    have h2 : l.flatten = (l.take (i + 1)).flatten ++ (l.drop (i + 1)).flatten := by rw [← List.flatten_append, List.take_append_drop]
    rw [h2, List.length_append] at ht
    omega
theorem all_ev (l : List (List Int)) (hl : l.length ≤ 4611686018427387904) (ht : l.flatten.length < 140737488355328) : Ev (fun k => tlv_All.f k l) l.flatten := by
  have := all_loop l hl ht l.length 0 (by omega)
  exact this
/-! ### lists that are the same -/
theorem same_from (a b : List Int) (hl : a.length = b.length) (hn : a.length ≤ 4611686018427387904) : ∀ (d i : Nat), i + d = a.length →
    Ev (fun k => hanaperref01_Same.l0 k a b i) (decide (a.drop i = b.drop i)) := by
  intro d
  induction d with
  | zero =>
    intro i hi
    refine Ev.step (fun k => by simp only [hanaperref01_Same.l0]; rfl) ?_
    refine neg (by omega) (now ?_)
    rw [List.drop_of_length_le (by omega), List.drop_of_length_le (by omega)]; simp
  | succ d ih =>
    intro i hi
    refine Ev.step (fun k => by simp only [hanaperref01_Same.l0]; rfl) ?_
    refine pos (by omega) (pos (by omega) (pos (by omega) ?_))
    rw [rd_nat a i (by omega), rd_nat b i (by omega), drop_cons a i (by omega), drop_cons b i (by omega), inc (show i < a.length by omega) hn]
    by_cases e : a[i]'(by omega) = b[i]'(by omega)
    · refine pos e ?_
      have := ih (i + 1) (by omega)
      generalize a.drop (i + 1) = A at this ⊢
      generalize b.drop (i + 1) = B at this ⊢
      simpa [e] using this
    · refine neg e (now ?_)
      generalize a.drop (i + 1) = A
      generalize b.drop (i + 1) = B
      simp [e]
theorem same_ev (a b : List Int) (hn : a.length ≤ 4611686018427387904) : Ev (fun k => hanaperref01_Same.f k a b) (decide (a = b)) := by
  unfold hanaperref01_Same.f
  by_cases e : a.length = b.length
  · refine pos (by omega) ?_
    simpa using same_from a b e hn a.length 0 (by omega)
  · refine neg (by omega) (now ?_)
    have : a ≠ b := fun h => e (by rw [h])
    simp [this]
end Go.Proofs.Ytobljmgoengofaa.Lo
-- printed for this claim by a program (pall.sh)
-- mended by fixpz.py
namespace Go.Proofs.Ytobljmgoengofaa.PZ
open Go.RowKit Go.Proofs.YtobljmgoengofaaW.PrintWords Go.Proofs.YtobljmgoengofaaW.PrintLast Go.Proofs.YtobljmgoengofaaW.PrintMore
attribute [local go_sem] max2_int min2_int max_two min_two max_three min_three max_four min_four   -- for this text's walks alone
set_option linter.unusedVariables false
set_option linter.unusedSimpArgs false

/-! ### hanaperref20_small: function 83 -/
mutual
def hanaperref20_small.j0 : Nat → Int → Int → Bool → Int → ByteArray → Int → Int → List (S75) → Option (Int)
 | 0, _, _, _, _, _, _, _, _ => none
 | k + 1, x1, x2, x26, x102000, x102001, x102002, x102003, x102004 => if x26 = true then (some (-1)) else (hanaperref20_small.l0 k (wrap64 (x1 - 1)) x2 0 x102000 x102001 x102002 x102003 x102004)
def hanaperref20_small.l0 : Nat → Int → Int → Int → Int → ByteArray → Int → Int → List (S75) → Option (Int)
 | 0, _, _, _, _, _, _, _, _ => none
 | k + 1, x1, x2, x7, x102000, x102001, x102002, x102003, x102004 => if x7 < (x102004.length : Int) then (if x1 ≥ 0 then (if 0 ≤ x7 then ((hanaperref20_small.f k ((rd_T75 x102004 x7).f0) ((rd_T75 x102004 x7).f1) ((rd_T75 x102004 x7).f2) ((rd_T75 x102004 x7).f3) ((rd_T75 x102004 x7).f4) x1 (wrap64 (x2 - 1))).bind fun t103 => (hanaperref20_small.l0 k t103 x2 (wrap64 (x7 + 1)) x102000 x102001 x102002 x102003 x102004)) else (none)) else (some x1)) else (some x1)
def hanaperref20_small.f : Nat → Int → ByteArray → Int → Int → List (S75) → Int → Int → Option (Int)
 | 0, _, _, _, _, _, _, _ => none
 | k + 1, a0_0, a0_1, a0_2, a0_3, l0_4, a1, a2 => if a1 < 1 then (hanaperref20_small.j0 k a1 a2 true a0_0 a0_1 a0_2 a0_3 l0_4) else (if a2 < 1 then (hanaperref20_small.j0 k a1 a2 true a0_0 a0_1 a0_2 a0_3 l0_4) else (if (l0_4.length : Int) > a1 then (hanaperref20_small.j0 k a1 a2 true a0_0 a0_1 a0_2 a0_3 l0_4) else (hanaperref20_small.j0 k a1 a2 (decide ((a0_1.size : Int) > 100)) a0_0 a0_1 a0_2 a0_3 l0_4)))
end
set_option maxHeartbeats 8000000 in
set_option maxRecDepth 100000 in
theorem hanaperref20_small.calls (k : Nat) : ∀ (a0_0 : Int) (a0_1 : ByteArray) (a0_2 : Int) (a0_3 : Int) (A0_4 : Option Addr) (c0_4 : Nat) (l0_4 : List (S75)) (a1 : Int) (a2 : Int) (r : Int) (w : World) (hr0_4 : Kd.C k75 w A0_4 l0_4.length l0_4) (hc0_4 : l0_4.length ≤ c0_4) (h : hanaperref20_small.f k a0_0 a0_1 a0_2 a0_3 l0_4 a1 a2 = some r),
  Calls Try.prog 83 #[.agg #[.int .i64 a0_0, .string a0_1, .int .i64 a0_2, .int .i64 a0_3, .slice A0_4 l0_4.length c0_4], .int .i64 a1, .int .i64 a2] w fun e w' => e = .returned (.int .i64 r) ∧ Below w.heap.size w w' := by
 induction k using Nat.strongRecOn with
 | _ k ih =>
 intro a0_0 a0_1 a0_2 a0_3 A0_4 c0_4 l0_4 a1 a2 r w hr0_4 hc0_4 h
 cases k with
 | zero => exact absurd h (by simp [hanaperref20_small.f])
 | succ k =>
 simp only [hanaperref20_small.f] at h
 have hu75 := Try.underlying75
 have HR0_4 := Aside0.mk hr0_4
 have HC0_4 := Aside0.mk hc0_4
 clear hr0_4 hc0_4
 have HB := Aside0.mk (Below.refl w.heap.size w)
 have H : (if a1 < 1 then (hanaperref20_small.j0 k a1 a2 true a0_0 a0_1 a0_2 a0_3 l0_4) else (if a2 < 1 then (hanaperref20_small.j0 k a1 a2 true a0_0 a0_1 a0_2 a0_3 l0_4) else (if (l0_4.length : Int) > a1 then (hanaperref20_small.j0 k a1 a2 true a0_0 a0_1 a0_2 a0_3 l0_4) else (hanaperref20_small.j0 k a1 a2 (decide ((a0_1.size : Int) > 100)) a0_0 a0_1 a0_2 a0_3 l0_4)))) = some r := h
 clear h
 have HC4 := Aside0.mk H
 clear H
 go_enter Try.func83, Try.ntmps83
 go_upto_region 1 with (first | ((with_reducible refine gate_dst (N := 3) rfl ?_); (try (refine gate_guard (by rfl) ?_; dsimp only)); refine box_event ?hg (N := 3) ?hd (cs := #[.int .i64 a0_0, .string a0_1, .int .i64 a0_2, .int .i64 a0_3, .slice A0_4 l0_4.length c0_4]) (t := 75) ?hr ?_; (case hd => rfl); (case hg => rfl); (case hr => first | (go_simp; done) | (go_simp; rfl)); intro gb101 hg w5 hbox hb; have n0_ := Aside0.mk (below_step (by repeat (first | (with_reducible first | exact HB.out | apply below_alloc | apply pw_below_drewN | apply below_drew1) | exact HB.out)) hb); have n1_ := Aside0.mk (hbox); have n2_ := Aside0.mk ((by rw [hg]; exact (below_size (by repeat (first | (with_reducible first | exact HB.out | apply below_alloc | apply pw_below_drewN | apply below_drew1) | exact HB.out))) : w.heap.size ≤ gb101)); have n3_ := Aside0.mk ((by rw [hg]; exact (below_size (by repeat (first | (with_reducible first | exact HB.out | apply below_alloc | apply pw_below_drewN | apply below_drew1) | exact HB.out))) : w.heap.size ≤ gb101)); clear HB; have HB := n0_; have BK101 := n1_; have GW101 := n2_; have GE101 := n3_; clear n0_ n1_ n2_ n3_; clear hb hbox hg))
 (try simp only [Act.put, List.setIfInBounds_toArray, List.set_cons_zero, List.set_cons_succ])
 go_cut [26] (fun v26 wc => ∃ (kq : Nat) (x26_3 : Bool), v26 = .bool x26_3 ∧ Aside0 (hanaperref20_small.j0 kq a1 a2 x26_3 a0_0 a0_1 a0_2 a0_3 l0_4 = some r) ∧ Aside0 (kq ≤ k) ∧ Aside0 (wc.heap[gb101]? = some (.cells #[.int .i64 a0_0, .string a0_1, .int .i64 a0_2, .int .i64 a0_3, (.slice A0_4 l0_4.length c0_4)] 75 (0, 0))) ∧ Aside0 (Below w.heap.size w wc))
 case first =>
  have H := HC4.out
  clear HC4
  by_cases c6 : a1 < 1
  ·rw [if_pos c6] at H
   have c6b0 : decide (a1 < 1) = true := decide_eq_true c6
   clear c6
   (first | rw [c6b0] | (simp only [i64_w, i32_w]; rw [c6b0]) | skip)
   have H' := Aside0.mk H
   clear H
   go_wp2
   go_meet
   case rel => exact ⟨_, (true), (by first | rfl | (simp; done) | (simp [*]; done)), H', ⟨by first | omega | exact Nat.le_refl _⟩, ⟨by (with_reducible repeat (first | refine blk_drewN ?_ _ | refine blk_drew ?_ | refine blk_alloc ?_ _)); exact BK101.out⟩, ⟨by repeat (first | (with_reducible first | exact HB.out | apply below_alloc | apply pw_below_drewN | apply below_drew1 | refine below_set ?_ GE101.out) | exact HB.out)⟩⟩
  ·rw [if_neg c6] at H
   have c6b0 : decide (a1 < 1) = false := decide_eq_false c6
   clear c6
   (first | rw [c6b0] | (simp only [i64_w, i32_w]; rw [c6b0]) | skip)
   by_cases c7 : a2 < 1
   ·rw [if_pos c7] at H
    have c7b0 : decide (a2 < 1) = true := decide_eq_true c7
    clear c7
    have H' := Aside0.mk H
    clear H
    go_wp2
    go_meet
    case rel => exact ⟨_, (true), (by first | rfl | (simp; done) | (simp [*]; done)), H', ⟨by first | omega | exact Nat.le_refl _⟩, ⟨by (with_reducible repeat (first | refine blk_drewN ?_ _ | refine blk_drew ?_ | refine blk_alloc ?_ _)); exact BK101.out⟩, ⟨by repeat (first | (with_reducible first | exact HB.out | apply below_alloc | apply pw_below_drewN | apply below_drew1 | refine below_set ?_ GE101.out) | exact HB.out)⟩⟩
   ·rw [if_neg c7] at H
    have c7b0 : decide (a2 < 1) = false := decide_eq_false c7
    clear c7
    by_cases c8 : (l0_4.length : Int) > a1
    ·rw [if_pos c8] at H
     have c8b0 : decide (a1 < (l0_4.length : Int)) = true := decide_eq_true c8
     clear c8
     have H' := Aside0.mk H
     clear H
     have hcz9_0 : w5.cell? ⟨gb101, 0, none⟩ = some (.int .i64 a0_0) := (blk_cell BK101.out 0).trans rfl
     have hcz9_1 : w5.cell? ⟨gb101, 1, none⟩ = some (.string a0_1) := (blk_cell BK101.out 1).trans rfl
     have hcz9_2 : w5.cell? ⟨gb101, 2, none⟩ = some (.int .i64 a0_2) := (blk_cell BK101.out 2).trans rfl
     have hcz9_3 : w5.cell? ⟨gb101, 3, none⟩ = some (.int .i64 a0_3) := (blk_cell BK101.out 3).trans rfl
     have hcz9_4 : w5.cell? ⟨gb101, 4, none⟩ = some (.slice A0_4 l0_4.length c0_4) := (blk_cell BK101.out 4).trans rfl
     have hfz9_0 := blk_frozen BK101.out 0
     have hfz9_1 := blk_frozen BK101.out 1
     have hfz9_2 := blk_frozen BK101.out 2
     have hfz9_3 := blk_frozen BK101.out 3
     have hfz9_4 := blk_frozen BK101.out 4
     go_wp2
     go_meet
     case rel => exact ⟨_, (true), (by first | rfl | (simp; done) | (simp [*]; done)), H', ⟨by first | omega | exact Nat.le_refl _⟩, ⟨by (with_reducible repeat (first | refine blk_drewN ?_ _ | refine blk_drew ?_ | refine blk_alloc ?_ _)); exact BK101.out⟩, ⟨by repeat (first | (with_reducible first | exact HB.out | apply below_alloc | apply pw_below_drewN | apply below_drew1 | refine below_set ?_ GE101.out) | exact HB.out)⟩⟩
    ·rw [if_neg c8] at H
     have c8b0 : decide (a1 < (l0_4.length : Int)) = false := decide_eq_false c8
     clear c8
     have H' := Aside0.mk H
     clear H
     have hcz10_0 : w5.cell? ⟨gb101, 0, none⟩ = some (.int .i64 a0_0) := (blk_cell BK101.out 0).trans rfl
     have hcz10_1 : w5.cell? ⟨gb101, 1, none⟩ = some (.string a0_1) := (blk_cell BK101.out 1).trans rfl
     have hcz10_2 : w5.cell? ⟨gb101, 2, none⟩ = some (.int .i64 a0_2) := (blk_cell BK101.out 2).trans rfl
     have hcz10_3 : w5.cell? ⟨gb101, 3, none⟩ = some (.int .i64 a0_3) := (blk_cell BK101.out 3).trans rfl
     have hcz10_4 : w5.cell? ⟨gb101, 4, none⟩ = some (.slice A0_4 l0_4.length c0_4) := (blk_cell BK101.out 4).trans rfl
     have hfz10_0 := blk_frozen BK101.out 0
     have hfz10_1 := blk_frozen BK101.out 1
     have hfz10_2 := blk_frozen BK101.out 2
     have hfz10_3 := blk_frozen BK101.out 3
     have hfz10_4 := blk_frozen BK101.out 4
     go_wp2
     go_meet
     case rel => exact ⟨_, (decide ((a0_1.size : Int) > 100)), (by first | rfl | (simp; done) | (simp [*]; done)), H', ⟨by first | omega | exact Nat.le_refl _⟩, ⟨by (with_reducible repeat (first | refine blk_drewN ?_ _ | refine blk_drew ?_ | refine blk_alloc ?_ _)); exact BK101.out⟩, ⟨by repeat (first | (with_reducible first | exact HB.out | apply below_alloc | apply pw_below_drewN | apply below_drew1 | refine below_set ?_ GE101.out) | exact HB.out)⟩⟩
 case rest =>
  clear HC4
  (try clear p2);(try clear c6);(try clear c6b0);(try clear c7);(try clear c7b0);(try clear c8);(try clear c8b0);(try clear hcz10_0);(try clear hcz10_1);(try clear hcz10_2);(try clear hcz10_3);(try clear hcz10_4);(try clear hcz9_0);(try clear hcz9_1);(try clear hcz9_2);(try clear hcz9_3);(try clear hcz9_4);(try clear hfz10_0);(try clear hfz10_1);(try clear hfz10_2);(try clear hfz10_3);(try clear hfz10_4);(try clear hfz9_0);(try clear hfz9_1);(try clear hfz9_2);(try clear hfz9_3);(try clear hfz9_4)
  obtain ⟨kq, x26_3, rfl, HA, HJ3, BK101, HB⟩ := hcut
  cases kq with
  | zero => exact absurd HA.out (by simp [hanaperref20_small.j0])
  | succ kj3 =>
   have H := HA.out
   clear HA
   simp only [hanaperref20_small.j0] at H
   by_cases c11 : x26_3 = true
   ·subst c11
    have H1 : (some (-1)) = some r := by rw [if_pos rfl] at H; exact H
    clear H
    have H := H1
    clear H1
    obtain rfl := Option.some.inj H
    go_wp2
    go_ret
    exact ⟨by first | rfl | (simp [errW_none, errW_some] <;> rfl) | (simp [*, errW_none, errW_some] <;> rfl), by repeat (first | (with_reducible first | exact HB.out | apply below_alloc | apply pw_below_drewN | apply below_drew1 | refine below_set ?_ GE101.out) | exact HB.out)⟩
   ·replace c11 := Bool.eq_false_iff.mpr c11
    subst c11
    have H1 : (hanaperref20_small.l0 kj3 (wrap64 (a1 - 1)) a2 0 a0_0 a0_1 a0_2 a0_3 l0_4) = some r := by rw [if_neg (show ¬ (false = true) by decide)] at H; exact H
    clear H
    have H := H1
    clear H1
    have H' := Aside0.mk H
    clear H
    go_wp2
    go_loopg [1, 7] kj3 (fun kq v1 v7 w' => ∃ (x1_2 : Int) (x7_2 : Int), v1 = .int .i64 x1_2 ∧ v7 = .int .i64 x7_2 ∧ Aside0 (hanaperref20_small.l0 kq x1_2 a2 x7_2 a0_0 a0_1 a0_2 a0_3 l0_4 = some r) ∧ Aside0 (kq ≤ kj3) ∧ Aside0 (w'.heap[gb101]? = some (.cells #[.int .i64 a0_0, .string a0_1, .int .i64 a0_2, .int .i64 a0_3, (.slice A0_4 l0_4.length c0_4)] 75 (0, 0))) ∧ Aside0 (Below w.heap.size w w'))
    case atStart => exact ⟨(wrap64 (a1 - 1)), (0), (by first | rfl | (simp; done) | (simp [*]; done)), (by first | rfl | (simp; done) | (simp [*]; done)), H', ⟨Nat.le_refl _⟩, ⟨by (with_reducible repeat (first | refine blk_drewN ?_ _ | refine blk_drew ?_ | refine blk_alloc ?_ _)); exact BK101.out⟩, ⟨by repeat (first | (with_reducible first | exact HB.out | apply below_alloc | apply pw_below_drewN | apply below_drew1 | refine below_set ?_ GE101.out) | exact HB.out)⟩⟩
    case round =>
     clear H'
     (try clear c1);(try clear p2);(try clear c6);(try clear c6b0);(try clear p6);(try clear c7);(try clear c7b0);(try clear c8);(try clear c8b0);(try clear c11);(try clear hcz10_0);(try clear hcz10_1);(try clear hcz10_2);(try clear hcz10_3);(try clear hcz10_4);(try clear hcz9_0);(try clear hcz9_1);(try clear hcz9_2);(try clear hcz9_3);(try clear hcz9_4);(try clear hfz10_0);(try clear hfz10_1);(try clear hfz10_2);(try clear hfz10_3);(try clear hfz10_4);(try clear hfz9_0);(try clear hfz9_1);(try clear hfz9_2);(try clear hfz9_3);(try clear hfz9_4);(try clear p2)
     obtain ⟨x1_2, x7_2, rfl, rfl, HA, HK2, BK101, HB⟩ := hrel
     cases gk with
     | zero => exact absurd HA.out (by simp [hanaperref20_small.l0])
     | succ k2 =>
      have H := HA.out
      clear HA
      simp only [hanaperref20_small.l0] at H
      by_cases c12 : x7_2 < (l0_4.length : Int)
      ·rw [if_pos c12] at H
       have c12b0 : decide (x7_2 < (l0_4.length : Int)) = true := decide_eq_true c12
       clear c12
       by_cases c13 : x1_2 ≥ 0
       ·rw [if_pos c13] at H
        have c13b0 : decide (0 ≤ x1_2) = true := decide_eq_true c13
        clear c13
        by_cases c14 : 0 ≤ x7_2
        ·rw [if_pos c14] at H
         have c14b0 : decide (0 ≤ x7_2) = true := decide_eq_true c14
         clear c14
         replace H := Option.bind_eq_some_iff.mp H
         obtain ⟨t103, A150, H⟩ := H
         replace H : (hanaperref20_small.l0 k2 t103 a2 (wrap64 (x7_2 + 1)) a0_0 a0_1 a0_2 a0_3 l0_4) = some r := H
         have A15 := Aside0.mk A150
         clear A150
         have H' := Aside0.mk H
         clear H
         have hcz16_0 : wr.cell? ⟨gb101, 0, none⟩ = some (.int .i64 a0_0) := (blk_cell BK101.out 0).trans rfl
         have hcz16_1 : wr.cell? ⟨gb101, 1, none⟩ = some (.string a0_1) := (blk_cell BK101.out 1).trans rfl
         have hcz16_2 : wr.cell? ⟨gb101, 2, none⟩ = some (.int .i64 a0_2) := (blk_cell BK101.out 2).trans rfl
         have hcz16_3 : wr.cell? ⟨gb101, 3, none⟩ = some (.int .i64 a0_3) := (blk_cell BK101.out 3).trans rfl
         have hcz16_4 : wr.cell? ⟨gb101, 4, none⟩ = some (.slice A0_4 l0_4.length c0_4) := (blk_cell BK101.out 4).trans rfl
         have hfz16_0 := blk_frozen BK101.out 0
         have hfz16_1 := blk_frozen BK101.out 1
         have hfz16_2 := blk_frozen BK101.out 2
         have hfz16_3 := blk_frozen BK101.out 3
         have hfz16_4 := blk_frozen BK101.out 4
         have p102 : 0 ≤ (x7_2 : Int) := of_decide_eq_true (by first | (with_reducible assumption) | assumption)
         have q102 : x7_2 < (l0_4.length : Int) := of_decide_eq_true (by first | (with_reducible assumption) | assumption)
         obtain ⟨ad102, A102_4, c102_4, e102, hx102_0, hx102_1, hx102_2, hx102_3, hx102_4, hl102_4, hi102_4⟩ := at_T75 HR0_4.out x7_2 p102 q102
         cases e102
         replace hx102_0 := (HB.out.cell (World.block_lt_of_cell? w _ hx102_0)).trans hx102_0
         replace hx102_1 := (HB.out.cell (World.block_lt_of_cell? w _ hx102_1)).trans hx102_1
         replace hx102_2 := (HB.out.cell (World.block_lt_of_cell? w _ hx102_2)).trans hx102_2
         replace hx102_3 := (HB.out.cell (World.block_lt_of_cell? w _ hx102_3)).trans hx102_3
         replace hx102_4 := (HB.out.cell (World.block_lt_of_cell? w _ hx102_4)).trans hx102_4
         have HR102_4 := Aside0.mk hi102_4
         have HC102_4 := Aside0.mk hl102_4
         clear hi102_4 hl102_4
         replace p102 := eq_true p102
         replace q102 := eq_true q102
         go_wp2_with (first | ((with_reducible refine gate_callee (f := 83) rfl ?_); refine goesL_ (some 48) rfl rfl Try.func83 (by kernel_rfl) rfl #[.agg #[.int .i64 ((rd_T75 l0_4 x7_2).f0), .string ((rd_T75 l0_4 x7_2).f1), .int .i64 ((rd_T75 l0_4 x7_2).f2), .int .i64 ((rd_T75 l0_4 x7_2).f3), .slice A102_4 ((rd_T75 l0_4 x7_2).f4).length c102_4], .int .i64 x1_2, .int .i64 (wrap64 (a2 - 1))] rfl (by (try simp only [List.map_toArray, List.map_cons, List.map_nil]); first | done | rfl | (simp only [List.length_drop, List.length_take]; rfl)) ?_; (with_reducible refine (ih k2 (by have := HJ3.out; have := HK2.out; omega) ((rd_T75 l0_4 x7_2).f0) ((rd_T75 l0_4 x7_2).f1) ((rd_T75 l0_4 x7_2).f2) ((rd_T75 l0_4 x7_2).f3) _ _ ((rd_T75 l0_4 x7_2).f4) x1_2 (wrap64 (a2 - 1)) t103 _ ?side1 ?side2 A15.out).mono ?_); (case side1 => repeat (first | exact (Kd.C_below HR102_4.out HB.out) | (with_reducible refine Kd.C_alloc ?_ _) | (with_reducible refine Kd.C_drewN ?_ _) | (with_reducible refine Kd.C_drew ?_))); (case side2 => exact HC102_4.out); rintro e w17 ⟨rfl, hb⟩; refine ⟨_, rfl, ?_⟩; have n0_ := Aside0.mk (blk_below (g := gb101) (o := .cells #[.int .i64 a0_0, .string a0_1, .int .i64 a0_2, .int .i64 a0_3, .slice (some ad102) l0_4.length c0_4] 75 (0, 0)) (by (with_reducible repeat (first | refine blk_drewN ?_ _ | refine blk_drew ?_ | refine blk_alloc ?_ _)); exact BK101.out) hb); have n1_ := Aside0.mk (below_step (by repeat (first | (with_reducible first | exact HB.out | apply below_alloc | apply pw_below_drewN | apply below_drew1 | refine below_set ?_ GE101.out) | exact HB.out)) hb); clear BK101; clear HB; have BK101 := n0_; have HB := n1_; clear n0_ n1_; (try clear hb); (try clear hb2); (try clear hk); (try clear hi)))
         go_roundg k2
         case measure => have := HJ3.out; have := HK2.out; omega
         case rel => exact ⟨(t103), (wrap64 (x7_2 + 1)), (by first | rfl | (simp; done) | (simp [*]; done)), (by first | rfl | (simp; done) | (simp [*]; done)), H', ⟨by have := HJ3.out; have := HK2.out; omega⟩, ⟨by (with_reducible repeat (first | refine blk_drewN ?_ _ | refine blk_drew ?_ | refine blk_alloc ?_ _)); exact BK101.out⟩, ⟨by repeat (first | (with_reducible first | exact HB.out | apply below_alloc | apply pw_below_drewN | apply below_drew1 | refine below_set ?_ GE101.out) | exact HB.out)⟩⟩
        ·rw [if_neg c14] at H
         exact absurd H (by simp)
       ·rw [if_neg c13] at H
        have c13b0 : decide (0 ≤ x1_2) = false := decide_eq_false c13
        clear c13
        obtain rfl := Option.some.inj H
        have hcz18_0 : wr.cell? ⟨gb101, 0, none⟩ = some (.int .i64 a0_0) := (blk_cell BK101.out 0).trans rfl
        have hcz18_1 : wr.cell? ⟨gb101, 1, none⟩ = some (.string a0_1) := (blk_cell BK101.out 1).trans rfl
        have hcz18_2 : wr.cell? ⟨gb101, 2, none⟩ = some (.int .i64 a0_2) := (blk_cell BK101.out 2).trans rfl
        have hcz18_3 : wr.cell? ⟨gb101, 3, none⟩ = some (.int .i64 a0_3) := (blk_cell BK101.out 3).trans rfl
        have hcz18_4 : wr.cell? ⟨gb101, 4, none⟩ = some (.slice A0_4 l0_4.length c0_4) := (blk_cell BK101.out 4).trans rfl
        have hfz18_0 := blk_frozen BK101.out 0
        have hfz18_1 := blk_frozen BK101.out 1
        have hfz18_2 := blk_frozen BK101.out 2
        have hfz18_3 := blk_frozen BK101.out 3
        have hfz18_4 := blk_frozen BK101.out 4
        go_wp2
        go_ret
        exact ⟨by first | rfl | (simp [errW_none, errW_some] <;> rfl) | (simp [*, errW_none, errW_some] <;> rfl), by repeat (first | (with_reducible first | exact HB.out | apply below_alloc | apply pw_below_drewN | apply below_drew1 | refine below_set ?_ GE101.out) | exact HB.out)⟩
      ·rw [if_neg c12] at H
       have c12b0 : decide (x7_2 < (l0_4.length : Int)) = false := decide_eq_false c12
       clear c12
       obtain rfl := Option.some.inj H
       have hcz19_0 : wr.cell? ⟨gb101, 0, none⟩ = some (.int .i64 a0_0) := (blk_cell BK101.out 0).trans rfl
       have hcz19_1 : wr.cell? ⟨gb101, 1, none⟩ = some (.string a0_1) := (blk_cell BK101.out 1).trans rfl
       have hcz19_2 : wr.cell? ⟨gb101, 2, none⟩ = some (.int .i64 a0_2) := (blk_cell BK101.out 2).trans rfl
       have hcz19_3 : wr.cell? ⟨gb101, 3, none⟩ = some (.int .i64 a0_3) := (blk_cell BK101.out 3).trans rfl
       have hcz19_4 : wr.cell? ⟨gb101, 4, none⟩ = some (.slice A0_4 l0_4.length c0_4) := (blk_cell BK101.out 4).trans rfl
       have hfz19_0 := blk_frozen BK101.out 0
       have hfz19_1 := blk_frozen BK101.out 1
       have hfz19_2 := blk_frozen BK101.out 2
       have hfz19_3 := blk_frozen BK101.out 3
       have hfz19_4 := blk_frozen BK101.out 4
       go_wp2
       go_ret
       exact ⟨by first | rfl | (simp [errW_none, errW_some] <;> rfl) | (simp [*, errW_none, errW_some] <;> rfl), by repeat (first | (with_reducible first | exact HB.out | apply below_alloc | apply pw_below_drewN | apply below_drew1 | refine below_set ?_ GE101.out) | exact HB.out)⟩

end Go.Proofs.Ytobljmgoengofaa.PZ
-- printed for this claim by a program (pall.sh)
-- mended by fixpz.py
namespace Go.Proofs.Ytobljmgoengofaa.PZ
open Go.RowKit Go.Proofs.YtobljmgoengofaaW.PrintWords Go.Proofs.YtobljmgoengofaaW.PrintLast Go.Proofs.YtobljmgoengofaaW.PrintMore
attribute [local go_sem] max2_int min2_int max_two min_two max_three min_three max_four min_four   -- for this text's walks alone
set_option linter.unusedVariables false
set_option linter.unusedSimpArgs false

/-! ### hanaperref20_Small: function 77 -/
def hanaperref20_Small.f (k : Nat) (a0_0 : Int) (a0_1 : ByteArray) (a0_2 : Int) (a0_3 : Int) (l0_4 : List (S75)) : Option (Bool) := (hanaperref20_small.f k a0_0 a0_1 a0_2 a0_3 l0_4 60 30).bind fun t102 => (some (decide (t102 ≥ 0)))
set_option maxHeartbeats 8000000 in
set_option maxRecDepth 100000 in
theorem hanaperref20_Small.calls (k : Nat) (a0_0 : Int) (a0_1 : ByteArray) (a0_2 : Int) (a0_3 : Int) (A0_4 : Option Addr) (c0_4 : Nat) (l0_4 : List (S75)) (r : Bool) (w : World) (hr0_4 : Kd.C k75 w A0_4 l0_4.length l0_4) (hc0_4 : l0_4.length ≤ c0_4) (h : hanaperref20_Small.f k a0_0 a0_1 a0_2 a0_3 l0_4 = some r) :
  Calls Try.prog 77 #[.agg #[.int .i64 a0_0, .string a0_1, .int .i64 a0_2, .int .i64 a0_3, .slice A0_4 l0_4.length c0_4]] w fun e w' => e = .returned (.bool r) ∧ Below w.heap.size w w' := by
 have hu75 := Try.underlying75
 have HR0_4 := Aside0.mk hr0_4
 have HC0_4 := Aside0.mk hc0_4
 clear hr0_4 hc0_4
 have HB := Aside0.mk (Below.refl w.heap.size w)
 have H : ((hanaperref20_small.f k a0_0 a0_1 a0_2 a0_3 l0_4 60 30).bind fun t102 => (some (decide (t102 ≥ 0)))) = some r := h
 clear h
 replace H := Option.bind_eq_some_iff.mp H
 obtain ⟨t102, A20, H⟩ := H
 replace H : (some (decide (t102 ≥ 0))) = some r := H
 have A2 := Aside0.mk A20
 clear A20
 obtain rfl := Option.some.inj H
 go_enter Try.func77, Try.ntmps77
 go_wp2_with (first | ((with_reducible refine gate_dst (N := 1) rfl ?_); refine box_event ?hg (N := 1) ?hd (cs := #[.int .i64 a0_0, .string a0_1, .int .i64 a0_2, .int .i64 a0_3, .slice A0_4 l0_4.length c0_4]) (t := 75) ?hr ?_; (case hd => rfl); (case hg => rfl); (case hr => first | (go_simp; done) | (go_simp; rfl)); intro gb101 hg w3 hbox hb; have n0_ := Aside0.mk (below_step (by repeat (first | (with_reducible first | exact HB.out | apply below_alloc | apply pw_below_drewN | apply below_drew1) | exact HB.out)) hb); have n1_ := Aside0.mk (hbox); have n2_ := Aside0.mk ((by rw [hg]; exact (below_size (by repeat (first | (with_reducible first | exact HB.out | apply below_alloc | apply pw_below_drewN | apply below_drew1) | exact HB.out))) : w.heap.size ≤ gb101)); have n3_ := Aside0.mk ((by rw [hg]; exact (below_size (by repeat (first | (with_reducible first | exact HB.out | apply below_alloc | apply pw_below_drewN | apply below_drew1) | exact HB.out))) : w.heap.size ≤ gb101)); clear HB; have HB := n0_; have BK101 := n1_; have GW101 := n2_; have GE101 := n3_; clear n0_ n1_ n2_ n3_; clear hb hbox hg; have hcz4_0 : w3.cell? ⟨gb101, 0, none⟩ = some (.int .i64 a0_0) := (blk_cell BK101.out 0).trans rfl; have hcz4_1 : w3.cell? ⟨gb101, 1, none⟩ = some (.string a0_1) := (blk_cell BK101.out 1).trans rfl; have hcz4_2 : w3.cell? ⟨gb101, 2, none⟩ = some (.int .i64 a0_2) := (blk_cell BK101.out 2).trans rfl; have hcz4_3 : w3.cell? ⟨gb101, 3, none⟩ = some (.int .i64 a0_3) := (blk_cell BK101.out 3).trans rfl; have hcz4_4 : w3.cell? ⟨gb101, 4, none⟩ = some (.slice A0_4 l0_4.length c0_4) := (blk_cell BK101.out 4).trans rfl; have hfz4_0 := blk_frozen BK101.out 0; have hfz4_1 := blk_frozen BK101.out 1; have hfz4_2 := blk_frozen BK101.out 2; have hfz4_3 := blk_frozen BK101.out 3; have hfz4_4 := blk_frozen BK101.out 4) | ((with_reducible refine gate_callee (f := 83) rfl ?_); refine goesL_ (some 4) rfl rfl Try.func83 (by kernel_rfl) rfl #[.agg #[.int .i64 a0_0, .string a0_1, .int .i64 a0_2, .int .i64 a0_3, .slice A0_4 l0_4.length c0_4], .int .i64 60, .int .i64 30] rfl (by (try simp only [List.map_toArray, List.map_cons, List.map_nil]); first | done | rfl | (simp only [List.length_drop, List.length_take]; rfl)) ?_; (with_reducible refine (hanaperref20_small.calls k a0_0 a0_1 a0_2 a0_3 _ _ l0_4 60 30 t102 _ ?side1 ?side2 A2.out).mono ?_); (case side1 => repeat (first | exact (Kd.C_below HR0_4.out HB.out) | (with_reducible refine Kd.C_alloc ?_ _) | (with_reducible refine Kd.C_drewN ?_ _) | (with_reducible refine Kd.C_drew ?_))); (case side2 => exact HC0_4.out); rintro e w5 ⟨rfl, hb⟩; refine ⟨_, rfl, ?_⟩; have n0_ := Aside0.mk (blk_below (g := gb101) (o := .cells #[.int .i64 a0_0, .string a0_1, .int .i64 a0_2, .int .i64 a0_3, .slice A0_4 l0_4.length c0_4] 75 (0, 0)) (by (with_reducible repeat (first | refine blk_drewN ?_ _ | refine blk_drew ?_ | refine blk_alloc ?_ _)); exact BK101.out) hb); have n1_ := Aside0.mk (below_step (by repeat (first | (with_reducible first | exact HB.out | apply below_alloc | apply pw_below_drewN | apply below_drew1 | refine below_set ?_ GE101.out) | exact HB.out)) hb); clear BK101; clear HB; have BK101 := n0_; have HB := n1_; clear n0_ n1_; (try clear hb); (try clear hb2); (try clear hk); (try clear hi)))
 go_ret
 exact ⟨by first | rfl | (simp [errW_none, errW_some] <;> rfl) | (simp [*, errW_none, errW_some] <;> rfl), by repeat (first | (with_reducible first | exact HB.out | apply below_alloc | apply pw_below_drewN | apply below_drew1 | refine below_set ?_ GE101.out) | exact HB.out)⟩

end Go.Proofs.Ytobljmgoengofaa.PZ
-- printed for this claim by a program (pall.sh)
-- mended by fixpz.py
namespace Go.Proofs.Ytobljmgoengofaa.PZ
open Go.RowKit Go.Proofs.YtobljmgoengofaaW.PrintWords Go.Proofs.YtobljmgoengofaaW.PrintLast Go.Proofs.YtobljmgoengofaaW.PrintMore
attribute [local go_sem] max2_int min2_int max_two min_two max_three min_three max_four min_four   -- for this text's walks alone
set_option linter.unusedVariables false
set_option linter.unusedSimpArgs false

end Go.Proofs.Ytobljmgoengofaa.PZ
-- printed for this claim by a program (pall.sh)
-- mended by fixpz.py
namespace Go.Proofs.Ytobljmgoengofaa.PZ
open Go.RowKit Go.Proofs.YtobljmgoengofaaW.PrintWords Go.Proofs.YtobljmgoengofaaW.PrintLast Go.Proofs.YtobljmgoengofaaW.PrintMore
attribute [local go_sem] max2_int min2_int max_two min_two max_three min_three max_four min_four   -- for this text's walks alone
set_option linter.unusedVariables false
set_option linter.unusedSimpArgs false

end Go.Proofs.Ytobljmgoengofaa.PZ
/- Scopes, plain: how many parts, which may be. -/
namespace Go.Proofs.Ytobljmgoengofaa.Scope
set_option linter.unusedVariables false
set_option linter.unusedSimpArgs false
open Go.RowKit Go.Proofs.YtobljmgoengofaaW.PrintWords Go.Proofs.Ytobljmgoengofaa.PZ Go.Proofs.Ytobljmgoengofaa.Aid
mutual
/-- How many parts a scope has. -/
def nodes : S75 → Nat
  | ⟨_, _, _, _, kids⟩ => nodesL kids + 1
def nodesL : List S75 → Nat
  | [] => 0
  | k :: ks => nodes k + nodesL ks
end
mutual
/-- Its names are short. -/
def short : S75 → Prop
  | ⟨_, nm, _, _, kids⟩ => nm.size ≤ 100 ∧ shortL kids
def shortL : List S75 → Prop
  | [] => True
  | k :: ks => short k ∧ shortL ks
end
theorem nodes_eq (x : S75) : nodes x = nodesL x.f4 + 1 := by obtain ⟨_, _, _, _, _⟩ := x; rw [nodes]
theorem short_eq (x : S75) : short x ↔ x.f1.size ≤ 100 ∧ shortL x.f4 := by obtain ⟨_, _, _, _, _⟩ := x; rw [short]
theorem nodes_pos (x : S75) : 1 ≤ nodes x := by rw [nodes_eq]; omega
theorem len_nodes : ∀ ks : List S75, ks.length ≤ nodesL ks
  | [] => Nat.zero_le _
  | k :: ks => by rw [nodesL, List.length_cons]; have := len_nodes ks; have := nodes_pos k; omega
theorem rd_at (xs : List S75) (i : Nat) (h : i < xs.length) : rd_T75 xs (i : Int) = xs[i] := by simp [rd_T75, List.getD_eq_getElem?_getD, List.getElem?_eq_getElem h]
/-- What 'small' comes to: below 0, or what is left of as many parts. -/
def SmallV (x : S75) (most v : Int) : Prop := -1 ≤ v ∧ v ≤ 60 ∧ (0 ≤ v → short x ∧ (nodes x : Int) + v ≤ most)
theorem small_loop (op : Int) (nm : ByteArray) (fr to_ : Int) (kids : List S75) (deep : Int) (hd0 : 0 ≤ deep) (hd1 : deep ≤ 30)
    (ih : ∀ k ∈ kids, ∀ most, -1 ≤ most → most ≤ 60 → ∃ v, SmallV k most v ∧ Ev (fun n => hanaperref20_small.f n k.f0 k.f1 k.f2 k.f3 k.f4 most (wrap64 (deep - 1))) v) :
    ∀ (m i : Nat) (most : Int), i + m = kids.length → kids.length ≤ 60 → -1 ≤ most → most ≤ 60 →
      ∃ v, -1 ≤ v ∧ v ≤ 60 ∧ (0 ≤ v → shortL (kids.drop i) ∧ (nodesL (kids.drop i) : Int) + v ≤ most) ∧ Ev (fun n => hanaperref20_small.l0 n most deep (i : Int) op nm fr to_ kids) v := by
  intro m
  induction m with
  | zero =>
    intro i most hi hl h0 h1
    refine ⟨most, h0, h1, fun h => ?_, Ev.step (fun k => by simp only [hanaperref20_small.l0]; rfl) (neg (by omega) (now rfl))⟩
    rw [List.drop_eq_nil_of_le (by omega)]
    exact ⟨trivial, by simp [nodesL]⟩
  | succ m ih2 =>
    intro i most hi hl h0 h1
    by_cases hm : most ≥ 0
    · have hlt : i < kids.length := by omega
      obtain ⟨v, hv, he⟩ := ih kids[i] (List.getElem_mem hlt) most h0 h1
      obtain ⟨v2, a0, a1, a2, a3⟩ := ih2 (i + 1) v (by omega) hl hv.1 hv.2.1
      refine ⟨v2, a0, a1, fun h => ?_, Ev.step (fun k => by simp only [hanaperref20_small.l0]; rfl) (pos (by omega) (pos hm (pos (by omega) ?_)))⟩
      · have hp : 0 ≤ v := by
          have := (a2 h).2
          omega
        have b := hv.2.2 hp
        rw [List.drop_eq_getElem_cons hlt, shortL, nodesL]
        exact ⟨⟨b.1, (a2 h).1⟩, by have := (a2 h).2; omega⟩
      · rw [rd_at kids i hlt]
        refine evBind he ?_
        rw [show wrap64 ((i : Int) + 1) = ((i + 1 : Nat) : Int) from inc hlt (by omega)]
        exact a3
    · refine ⟨most, h0, h1, fun h => absurd h hm, Ev.step (fun k => by simp only [hanaperref20_small.l0]; rfl) (pos (by omega) (neg hm (now rfl)))⟩
theorem small_j (op : Int) (nm : ByteArray) (fr to_ : Int) (kids : List S75) (most deep : Int) : Ev (fun n => hanaperref20_small.j0 n most deep true op nm fr to_ kids) (-1) :=
  Ev.step (fun k => by simp only [hanaperref20_small.j0]; rfl) (pos (show true = true from rfl) (now rfl))
theorem small_ev : ∀ (n : Nat) (x : S75), SizeOf.sizeOf x < n → ∀ most deep, -1 ≤ most → most ≤ 60 → 0 ≤ deep → deep ≤ 30 → ∃ v, SmallV x most v ∧ Ev (fun k => hanaperref20_small.f k x.f0 x.f1 x.f2 x.f3 x.f4 most deep) v := by
  intro n
  induction n with
  | zero => intro x h; exact absurd h (by omega)
  | succ n ih =>
    intro x hn most deep h0 h1 d0 d1
    have bad : ∀ g : Nat → Option Int, Ev g (-1) → SmallV x most (-1) := fun _ _ => ⟨by omega, by omega, fun h => absurd h (by omega)⟩
    by_cases c1 : most < 1
    · exact ⟨-1, bad _ (small_j 0 x.f1 0 0 [] 0 0), Ev.step (fun k => by simp only [hanaperref20_small.f]; rfl) (pos c1 (small_j _ _ _ _ _ _ _))⟩
    · by_cases c2 : deep < 1
      · exact ⟨-1, bad _ (small_j 0 x.f1 0 0 [] 0 0), Ev.step (fun k => by simp only [hanaperref20_small.f]; rfl) (neg c1 (pos c2 (small_j _ _ _ _ _ _ _)))⟩
      · by_cases c3 : (x.f4.length : Int) > most
        · exact ⟨-1, bad _ (small_j 0 x.f1 0 0 [] 0 0), Ev.step (fun k => by simp only [hanaperref20_small.f]; rfl) (neg c1 (neg c2 (pos c3 (small_j _ _ _ _ _ _ _))))⟩
        · by_cases c4 : (x.f1.size : Int) > 100
          · exact ⟨-1, bad _ (small_j 0 x.f1 0 0 [] 0 0), Ev.step (fun k => by simp only [hanaperref20_small.f]; rfl) (neg c1 (neg c2 (neg c3 (by rw [decide_eq_true c4]; exact small_j _ _ _ _ _ _ _))))⟩
          · have hw : wrap64 (most - 1) = most - 1 := w64 (by omega) (by omega)
            have hw2 : wrap64 (deep - 1) = deep - 1 := w64 (by omega) (by omega)
            obtain ⟨v, a0, a1, a2, a3⟩ := small_loop x.f0 x.f1 x.f2 x.f3 x.f4 deep d0 d1 (fun k hk m q0 q1 => ih k (by have := kid_lt hk; omega) m (wrap64 (deep - 1)) q0 q1 (by omega) (by omega)) x.f4.length 0 (most - 1) (by omega) (by omega) (by omega) (by omega)
            refine ⟨v, ⟨a0, a1, fun h => ?_⟩, Ev.step (fun k => by simp only [hanaperref20_small.f]; rfl) (neg c1 (neg c2 (neg c3 ?_)))⟩
            · have b := a2 h
              rw [List.drop_zero] at b
              exact ⟨(short_eq x).2 ⟨by omega, b.1⟩, by rw [nodes_eq]; have := b.2; omega⟩
            · rw [decide_eq_false c4]
              refine Ev.step (fun k => by simp only [hanaperref20_small.j0]; rfl) (neg (show ¬ (false = true) by decide) ?_)
              rw [hw]
              exact a3
/-- Small, whatever the scope: yes or no; if yes, it has at most 60 parts, and short names. -/
theorem Small_ev (x : S75) : ∃ b, Ev (fun k => hanaperref20_Small.f k x.f0 x.f1 x.f2 x.f3 x.f4) b ∧ (b = true → short x ∧ nodes x ≤ 60) := by
  obtain ⟨v, hv, he⟩ := small_ev _ x (Nat.lt_succ_self _) 60 30 (by decide) (by decide) (by decide) (by decide)
  refine ⟨decide (v ≥ 0), evBind he (now rfl), fun h => ?_⟩
  have h0 : 0 ≤ v := of_decide_eq_true h
  have := hv.2.2 h0
  exact ⟨this.1, by omega⟩
theorem node_le : ∀ {ks : List S75} {k : S75}, k ∈ ks → nodes k ≤ nodesL ks
  | k' :: ks, k, h => by
    rw [nodesL]
    rcases List.mem_cons.1 h with rfl | h
    · omega
    · have := node_le h; omega
theorem shortL_mem : ∀ {ks : List S75} {k : S75}, shortL ks → k ∈ ks → short k
  | k' :: ks, k, h, hk => by
    rw [shortL] at h
    rcases List.mem_cons.1 hk with rfl | hk
    · exact h.1
    · exact shortL_mem h.2 hk
end Go.Proofs.Ytobljmgoengofaa.Scope
/- The lowest functions, each with what it answers. -/
namespace Go.Proofs.Ytobljmgoengofaa.Lo
open Go.Proofs.Ytobljmgoengofaa.Base Go.Proofs.Ytobljmgoengofaa.TlvPlain Go.Proofs.Ytobljmgoengofaa.Aid Go.RowKit Go.Proofs.YtobljmgoengofaaW.PrintWords Go.Proofs.YtobljmgoengofaaW.PrintLast Go.Proofs.YtobljmgoengofaaW.PrintMore Go.Proofs.Ytobljmgoengofaa.PZ

/-- New bytes. -/
def Makes (w : World) (bs : List Int) (e : Ending) (w' : World) : Prop := ∃ v : Value, e = .returned v ∧ Ob w' w.heap.size v bs ∧ Below w.heap.size w w'
theorem same_c (A0 : Option Addr) (c0 : Nat) (a : List Int) (A1 : Option Addr) (c1 : Nat) (b : List Int) (w : World) (h0 : Rb w A0 a) (hc0 : a.length ≤ c0) (h1 : Rb w A1 b) (hc1 : b.length ≤ c1) (hn : a.length ≤ 4611686018427387904) :
    Calls Try.prog 18 #[.slice A0 a.length c0, .slice A1 b.length c1] w fun e w' => e = .returned (.bool (decide (a = b))) ∧ Drawn0 w w' := by
  obtain ⟨k, h⟩ := (same_ev a b hn).rounds
  exact hanaperref01_Same.calls k A0 c0 a A1 c1 b _ w h0 hc0 h1 hc1 h
theorem same_n (A0 : Option Addr) (c0 n0 : Nat) (a : List Int) (A1 : Option Addr) (c1 n1 : Nat) (b : List Int) (w : World) (h0 : Rb w A0 a) (e0 : a.length = n0) (hc0 : n0 ≤ c0) (h1 : Rb w A1 b) (e1 : b.length = n1) (hc1 : n1 ≤ c1) (hn : n0 ≤ 4611686018427387904) :
    Calls Try.prog 18 #[.slice A0 n0 c0, .slice A1 n1 c1] w fun e w' => e = .returned (.bool (decide (a = b))) ∧ Drawn0 w w' := by
  subst e0; subst e1
  exact same_c A0 c0 a A1 c1 b w h0 hc0 h1 hc1 hn
theorem text_c (A0 : Option Addr) (c0 : Nat) (l : List Int) (w : World) (hr : Rb w A0 l) (hc : l.length ≤ c0) (hl : l.length < 140737488355000) : Calls Try.prog 50 #[.slice A0 l.length c0] w (Makes w (textB l)) := by
  obtain ⟨k, h⟩ := (text_ev l hl).rounds
  exact tlv_Text.calls k A0 c0 l _ w hr hc h
end Go.Proofs.Ytobljmgoengofaa.Lo
/- Text of a string's bytes (a conversion and a call, one step for the printer). -/
namespace Go.Proofs.Ytobljmgoengofaa.PZ
set_option linter.unusedVariables false
open Go.RowKit Go.Proofs.Ytobljmgoengofaa.Base Go.Proofs.Ytobljmgoengofaa.TlvPlain Go.Proofs.Ytobljmgoengofaa.Lo Go.Proofs.YtobljmgoengofaaW.PrintWords
theorem textS_of {F : Nat} (s : ByteArray) (hs : s.size < 140737488355000) (W : World) (h : Calls Try.prog F #[.slice (some ⟨W.heap.size, 0, none⟩) (bytesOf s).length (grownCap W s.size 0 5)] (Lib.bytesWorld W 5 s) (Makes (Lib.bytesWorld W 5 s) (textB (bytesOf s)))) :
    Calls Try.prog F #[.slice (some ⟨W.heap.size, 0, none⟩) s.size (grownCap W s.size 0 5)] (Lib.bytesWorld W 5 s) fun e w' => ∃ v0_ : Value, e = .returned (v0_) ∧ Kd.R (Kd.int .u8) 5 w' W.heap.size (fun _ => True) v0_ (textB (bytesOf s)) ∧ Below W.heap.size W w' := by
  rw [bytesOf_length] at h
  have hb := bytes_below (Below.refl W.heap.size W) (Nat.le_refl _) 5 s
  refine h.mono ?_
  rintro e w' ⟨v, rfl, ho, hb2⟩
  exact ⟨v, rfl, Kd.R_lower ho hb.size, below_step hb hb2⟩
theorem bytes_row (s : ByteArray) (hs : s.size < 140737488355000) (W : World) : Rb (Lib.bytesWorld W 5 s) (some ⟨W.heap.size, 0, none⟩) (bytesOf s) := by
  have h := Kd.C_of_reads (d := (0 : Int)) (h1 := fun _ => rfl) (bytes_reads W 5 s (by omega))
  rw [← bytesOf_length s] at h
  exact h
theorem bytes_cap (s : ByteArray) (W : World) : (bytesOf s).length ≤ grownCap W s.size 0 5 := by
  rw [bytesOf_length]
  exact grownCap_ge W s.size 0 _
def tlv_TextS.f (s : ByteArray) : Option (List Int) := if s.size < 140737488355000 then some (textB (bytesOf s)) else none
theorem tlv_TextS.calls (s : ByteArray) (r : List Int) (W : World) (h : tlv_TextS.f s = some r) {g : Nat} (hg : g = W.heap.size := by first | (with_unfolding_all rfl) | simp) :
    Calls Try.prog 50 #[.slice (some ⟨g, 0, none⟩) s.size (grownCap W s.size 0 5)] (Lib.bytesWorld W 5 s) fun e w' => ∃ v0_ : Value, e = .returned (v0_) ∧ Kd.R (Kd.int .u8) 5 w' W.heap.size (fun _ => True) v0_ r ∧ Below W.heap.size W w' := by
  subst hg
  unfold tlv_TextS.f at h
  by_cases hs : s.size < 140737488355000
  · rw [if_pos hs] at h
    obtain rfl := Option.some.inj h
    exact textS_of s hs W (text_c _ _ (bytesOf s) _ (bytes_row s hs W) (bytes_cap s W) (by rw [bytesOf_length]; exact hs))
  · rw [if_neg hs] at h
    exact absurd h (by simp)
end Go.Proofs.Ytobljmgoengofaa.PZ
