/- Own and printed texts, laid together. -/
import Derived.Test.YtobljmgoengofaaProg
import Derived.Below
import Derived.Deep.Draws
import Derived.Deep.AppendLies
import Derived.Maps.AppendAt
import Derived.OwnWalk
import Derived.Laws.BytesArg
import Derived.Laws.MakeOwn
import Derived.Laws.OwnMore
import Derived.Deep.OwnRows
import Derived.Tactics
import Derived.Lib.ConvBytes
import Derived.Laws.Slices
import Derived.WalkKit
import Derived.KernelRfl
import Derived.RowKit3
import Derived.Deep.LoopGhost
import Derived.Deep.QuietTactic
import Derived.BigQuiet
import Derived.WideLaws
import Derived.Deep.DeepCutAuto
import Derived.Deep.CutBlock
import Derived.Deep.RegionHeld3
import Derived.Laws.Rows
import Derived.Lib.AppendStr
import Derived.ArgAppend
import Derived.Laws.IdiomCopy
import Derived.OrdersHeld
import Derived.Laws.BitsLemmas
import Derived.RowKit
import Derived.Test.YtobljmgoengofaaPlGA
import Derived.Test.YtobljmgoengofaaPlGB
import Derived.Lib.SlBytesConst
import Derived.RangeFuncBox
import Derived.RangeFuncLeaves
import Derived.RangeFuncWrites
import Derived.Shelf.Abstract
import Derived.OwnWalkIn
import Derived.TacticsInMore
import Derived.LoopNIn
import Derived.LoopIn
import Derived.Sort.QuietIn
/- What every text of this claim stands on: the imports, and a few laws on kinds. -/
namespace Go.Proofs.Ytobljmgoengofaa.Base
open Go.RowKit Go.Proofs.YtobljmgoengofaaW.PrintWords Go.Proofs.YtobljmgoengofaaW.PrintLast Go.Proofs.YtobljmgoengofaaW.PrintMore

/-- Bytes that are read. -/
abbrev Rb (w : World) (A : Option Addr) (xs : List Int) : Prop := Kd.C (Kd.int .u8) w A xs.length xs
/-- Bytes of the call's own. -/
abbrev Ob (w : World) (base : Nat) (v : Value) (xs : List Int) : Prop := Kd.R (Kd.int .u8) 5 w base (fun _ => True) v xs
theorem info_u8 : (Try.prog.info? 5).map (fun i => (i.zero, i.size, i.bytes)) = some (some (.int .u8 0), 1, 1) := by kernel_rfl
/-- A row of bytes of the call's own, read. -/
theorem Ob.reads {w : World} {base : Nat} {v : Value} {xs : List Int} (h : Ob w base v xs) : ∃ A c, v = .slice A xs.length c ∧ xs.length ≤ c ∧ Rb w A xs := Kd.R_reads h
theorem Rb.at0 {w : World} {A : Option Addr} {x : Int} {xs : List Int} (h : Rb w A (x :: xs)) : ∃ ad, A = some ad ∧ w.cell? ad = some (.int .u8 x) := by
  obtain ⟨ad, e, hc⟩ := Kd.at_int h 0 (by omega) (by simp)
  exact ⟨ad, e, by simpa [rd, Addr.add] using hc⟩
/-- Bytes that are written out. -/
theorem lit_bytes {P : Program} {ops : Array Oper} {rest : List Oper} {o : Oper} {a : Act} {Q : Exit → Act → World → Prop} {W : World} {N : Tmp} (hgd : o.guard = none) (hd : o.dst = some N) (xs : List Int) (inner : List Value) (hi : inner = nums .u8 xs)
    (hrun : (execOp a.eval o).run P W = .ok (.value (.slice (some ⟨W.heap.size, 0, none⟩) xs.length xs.length)) (W.alloc (.cells inner.toArray 5))) (hm : xs.length ≤ 9223372036854775807)
    (h : ∀ v1 w1, Ob w1 W.heap.size v1 xs → Below W.heap.size W w1 → wpList P ops Q rest (a.put o.dst v1) w1) : wpList P ops Q (o :: rest) a W := by
  subst hi
  exact Kd.R_lit (Kd.int .u8) W.heap.size 5 hgd hd (okp := fun _ => True) hrun (Kd.reps_scalar (enc := Value.int .u8) xs) (fun _ hk => hk) trivial (Below.refl _ _) (Nat.le_refl _) hm (fun v1 w1 h1 h2 _ _ => h v1 w1 h1 h2)
/-- The bytes of a text that is written out, read. -/
theorem const_reads (w : World) (xs : List Int) (C : Array Value) (fr : Nat × Nat) (hC : C = (nums .u8 xs).toArray) (hm : xs.length ≤ 9223372036854775807) : Rb (w.alloc (.cells C 5 fr)) (some ⟨w.heap.size, 0, none⟩) xs := by
  subst hC
  refine Kd.C_of_reads (d := (0 : Int)) ⟨rfl, hm, fun _ => ⟨_, rfl, fun j hj => ?_⟩⟩
  have e : (⟨w.heap.size, 0, none⟩ : Addr).add j = ⟨w.heap.size, j, none⟩ := add_plain _ _
  rw [e]
  have hb : (w.alloc (.cells (nums .u8 xs).toArray 5 fr)).heap[w.heap.size]? = some (.cells (nums .u8 xs).toArray 5 fr) := heap_alloc_new _ _
  unfold World.cell?
  dsimp only
  rw [hb]
  simp [nums, List.getElem?_eq_getElem hj, List.getD_eq_getElem?_getD]
/-- Rows of bytes that are read. -/
abbrev Rr (w : World) (A : Option Addr) (xs : List (List Int)) : Prop := Kd.C (Kd.slice 5 (Kd.int .u8)) w A xs.length xs
/-- A take of bytes that are read. -/
theorem Rb.take {w : World} {A : Option Addr} {xs : List Int} (h : Rb w A xs) (n : Nat) (hn : n ≤ xs.length) : Rb w A (xs.take n) := by
  have h5 := Kd.C_of_reads (d := (0 : Int)) (h1 := fun _ => rfl) (ReadsInt.take_ (Kd.reads_of_C (d := (0 : Int)) h) n hn)
  show Kd.C _ w A (xs.take n).length (xs.take n)
  rw [show (xs.take n).length = n from by rw [List.length_take]; omega]
  exact h5
theorem Rb.len {w : World} {A : Option Addr} {xs : List Int} (h : Rb w A xs) : xs.length ≤ 9223372036854775807 := (Kd.reads_of_C (d := (0 : Int)) h).2.1
end Go.Proofs.Ytobljmgoengofaa.Base
/- A builtin's law inside a fence, out of the same law outside. -/
namespace Go.Proofs.Ytobljmgoengofaa.Fence0
open Go.RowKit
set_option linter.unusedSimpArgs false
set_option linter.unusedVariables false

/-- Operations that enter no function. -/
def calm (o : Oper) : Bool :=
  match o.op with
  | .move _ | .assign _ | .load .. | .store .. | .slice .. => true
  | .call c => match c.callee with
    | .builtin .append => true
    | _ => false
  | _ => false
def calmR : Result Next → Prop
  | .ok (.value _) _ => True
  | .ok .skip _ => True
  | .halt _ _ => True
  | _ => False
theorem calm_run {P : Program} {o : Oper} (h : calm o = true) (ρ : Operand → Value) (w : World) : calmR ((execOp ρ o).run P w) ∧ (∀ c, o.op ≠ .defer c) ∧ (∀ w, o.about P w ρ = none) := by
  unfold calm at h
  cases ho : o.op with
  | move x => exact ⟨by simp [execOp, ho, calmR, Sem.run_pure], (by intro c hc; cases hc), fun w => by simp [Oper.about, ho]⟩
  | assign x => exact ⟨by simp [execOp, ho, calmR, Sem.run_pure], (by intro c hc; cases hc), fun w => by simp [Oper.about, ho]⟩
  | load t x =>
    refine ⟨?_, (by intro c hc; cases hc), fun w => by simp [Oper.about, ho]⟩
    simp only [execOp, ho, Sem.run_bind, Sem.run_pure]
    generalize Sem.run P _ w = r
    cases r <;> simp [Result.andThen, calmR]
  | store t x y =>
    refine ⟨?_, (by intro c hc; cases hc), fun w => by simp [Oper.about, ho]⟩
    simp only [execOp, ho, Sem.run_bind, Sem.run_pure]
    generalize Sem.run P _ w = r
    cases r <;> simp [Result.andThen, calmR]
  | slice t x a b c =>
    refine ⟨?_, (by intro c hc; cases hc), fun w => by simp [Oper.about, ho]⟩
    simp only [execOp, ho, Sem.run_bind, Sem.run_pure]
    generalize Sem.run P _ w = r
    cases r <;> simp [Result.andThen, calmR]
  | call c =>
    obtain ⟨callee, args, ts⟩ := c
    rw [ho] at h
    cases callee with
    | builtin b =>
      cases b with
      | append =>
        refine ⟨?_, (by intro c hc; cases hc), fun w => by simp [Oper.about, ho, resolve, Target.leads, Sem.run_pure]⟩
        simp only [execOp, ho, resolve, invoke, builtin, Sem.run_bind, Sem.run_pure, Result.andThen_ok]
        generalize Sem.run P _ w = r
        cases r <;> simp [Result.andThen, calmR]
      | _ => cases h
    | _ => cases h
  | _ => rw [ho] at h; cases h
theorem calm_in {F : Fence} {n : Nat} {P : Program} {o : Oper} {a : Act} {w : World} {K : Act → World → Prop} {Q : Exit → Act → World → Prop} (h : calm o = true) (hp : o.wp P a w K Q) : o.wpIn F n P a w K Q := by
  obtain ⟨h1, h2, h3⟩ := calm_run (P := P) h a.eval w
  unfold Oper.wpIn
  refine ⟨(fun f hf => by rw [h3 w] at hf; cases hf), ?_⟩
  rw [Oper.semAt_plain F _ _ h2]
  unfold Oper.wp at hp
  generalize Sem.run P (execOp a.eval o) w = r at h1 hp ⊢
  cases r with
  | ok x w' => cases x <;> first | exact hp | exact h1.elim
  | halt x w' => cases x <;> first | exact hp | exact hp.elim
theorem any_in {F : Fence} {n : Nat} {P : Program} {md : Region.Mode} {ops : Array Oper} {Q : Exit → Act → World → Prop} (hc : ∀ (i : Nat) (o : Oper), ops[i]? = some o → calm o = true) (hq : ∀ a w, ¬ Q .outgrown a w) :
    ∀ (fuel : Nat) (listed : Array Bool) (a : Act) (w : World), wpAny P md ops Q fuel listed a w → wpAnyIn F n P md ops Q fuel listed a w := by
  intro fuel
  induction fuel with
  | zero => intro listed a w h; exact h
  | succ fuel ih =>
    intro listed a w h
    refine ⟨h.1, fun i hi => ?_⟩
    have h2 := h.2 i hi
    unfold wpOp at h2
    unfold wpOpIn
    split
    · rename_i ho
      rw [ho] at h2
      exact ih _ _ _ h2
    · rename_i o ho
      rw [ho] at h2
      dsimp only at h2
      split
      · rename_i hw
        rw [if_pos hw] at h2
        rcases h2 with h2 | ⟨_, _, _, h2⟩
        · exact Oper.wpIn_mono (fun a w => ih _ a w) (calm_in (hc i o ho) h2)
        · exact absurd h2 (hq _ _)
      · rename_i hw
        rw [if_neg hw] at h2
        exact ⟨(fun f hf => by rw [(calm_run (P := P) (hc i o ho) a.eval w).2.2 w] at hf; cases hf), ih _ _ _ h2⟩
theorem region_in {F : Fence} {n : Nat} {P : Program} {id : Nat} {ops : Array Oper} {Q : Exit → Act → World → Prop} {a : Act} {w : World} (hm : P.follows .mixedOrders = true) (hc : ops.all calm = true) (hq : ∀ a w, ¬ Q .outgrown a w)
    (h : wpAny P .any ops Q ops.size (Array.replicate ops.size false) a w.drew) : (Code.region id ops true).wpIn F n P Q a w :=
  wpIn_region_any hm (any_in (fun i o ho => by
    obtain ⟨hi, e⟩ := Array.getElem?_eq_some_iff.1 ho
    rw [Array.all_eq_true] at hc
    rw [← e]; exact hc i hi) hq _ _ _ _ h)
end Go.Proofs.Ytobljmgoengofaa.Fence0
/- slices.Chunk: the iterator's contract, for every loop body that keeps the slice's cells. -/
namespace Go.Proofs.Ytobljmgoengofaa.Chunk
open Go.RowKit Go.Shelf Go.Proofs.Ytobljmgoengofaa.Base Go.Proofs.YtobljmgoengofaaW.PrintWords Go.Proofs.YtobljmgoengofaaW.PrintLast Go.Proofs.YtobljmgoengofaaW.PrintMore

attribute [local go_sem] Oper.semAt_some

/-- How many pieces there are. -/
def nch (len : Nat) : Nat := (len + 255) / 256
/-- How long piece k is. -/
def plen (len k : Nat) : Nat := min 256 (len - 256 * k)
/-- What the loop's body keeps: every elder block but one. -/
def KpB (n1 Bo : Nat) (A B : World) : Prop := ∀ k, k < n1 → k ≠ Bo → B.heap[k]? = A.heap[k]?
theorem KpB.refl (n1 Bo : Nat) (A : World) : KpB n1 Bo A A := fun _ _ _ => rfl
theorem KpB.trans {n1 Bo : Nat} {A B C : World} (h : KpB n1 Bo A B) (k : KpB n1 Bo B C) : KpB n1 Bo A C := fun i h1 h2 => (k i h1 h2).trans (h i h1 h2)
theorem KpB.put {n1 Bo : Nat} (W : World) (l : Nat) (o o' : Obj) (hl : n1 ≤ l) (_ : W.heap[l]? = some o) (_ : o.isCells = false) (_ : o.isWalk = false) : KpB n1 Bo W (W.putObj l o') :=
  fun k h1 _ => World.putObj_heap_other (by omega)
def pre (n k : Nat) : List (Fin n) := (List.finRange n).take k
theorem pre_len {n k : Nat} (h : k ≤ n) : (pre n k).length = k := by simp [pre]; omega
theorem pre_snoc {n k : Nat} (h : k < n) : pre n (k + 1) = pre n k ++ [⟨k, h⟩] := by
  unfold pre
  rw [List.take_succ_eq_append_getElem (by simpa using h)]
  simp
theorem pre_all (n : Nat) : pre n n = List.finRange n := by unfold pre; exact List.take_of_length_le (by simp)

theorem grownBy_drewN (w : World) (n : Nat) : w.grownBy (w.drewN n) none := ⟨rfl, rfl, rfl, Nat.le_refl _, fun _ _ _ => rfl⟩
set_option maxRecDepth 100000 in
set_option maxHeartbeats 2000000 in
theorem chunk1_in (n : Nat) (l Bs Bn n1 Bo : Nat) (A : Option Addr) (len cap : Nat) (hlc : len ≤ cap) (hlen : len < 140737488355328) (hA : 0 < len → ∃ a, A = some a) (hBs1 : Bs < n1) (hBs2 : Bs ≠ Bo) (hBn1 : Bn < n1) (hBn2 : Bn ≠ Bo) (J Jx : List (Fin (nch len)) → World → Prop)
    (hY : ∀ (ps : List (Fin (nch len))) (x : Fin (nch len)) (W : World), J ps W → ps.length < nch len → YieldAt Fence.wide (n - 1) Try.prog l #[.slice (A.map (fun a => a.add (256 * x))) (plen len x) (plen len x)] W fun e W' =>
      (e = .returned (.bool true) ∧ J (ps ++ [x]) W' ∧ KpB n1 Bo W W') ∨ (e = .returned (.bool false) ∧ Jx (ps ++ [x]) W'))
    (W : World) (hBs : W.cell? ⟨Bs, 0, none⟩ = some (.slice A len cap)) (hBn : W.cell? ⟨Bn, 0, none⟩ = some (.int .i64 256)) (h0 : J [] W) (hJd : ∀ ps A B, J ps A → A.grownBy B none → J ps B) :
    CallsIn Fence.wide n Try.prog 78 #[.func (.yield l) #[] #[], .pointer (some ⟨Bs, 0, none⟩), .pointer (some ⟨Bn, 0, none⟩)] W fun e W' => (∃ v, e = .returned v) ∧
      (J (List.finRange (nch len)) W' ∨ (∃ k, k ≤ nch len ∧ Jx (pre (nch len) k) W')) := by
  refine callsIn_of_wp Try.func78 rfl trivial ?_ rfl
  simp only [Try.ntmps78, List.size_toArray, List.length_cons, List.length_nil, Nat.reduceAdd, Nat.reduceSub, Array.replicate_succ, Array.replicate_zero, List.push_toArray, List.append_toArray, List.nil_append, List.cons_append]
  gi_wp2
  gi_loopw [4] (fun i wr => ∃ k p : Nat, k ≤ nch len ∧ Aside0 (p = 256 * k) ∧ i = .int .i64 p ∧ Aside0 (J (pre (nch len) k) wr) ∧ Aside0 (KpB n1 Bo W wr))
    (fun i _ => len + 256 - (intOf i).toNat)
  case atStart => exact ⟨0, 0, Nat.zero_le _, ⟨rfl⟩, rfl, ⟨by simpa [pre] using h0⟩, ⟨KpB.refl _ _ _⟩⟩
  case round =>
    obtain ⟨k, p, hk, HP, rfl, HJ, HK⟩ := hrel
    have hcs : wr.cell? ⟨Bs, 0, none⟩ = some (.slice A len cap) := (World.cell?_of_block (HK.out Bs hBs1 hBs2)).trans hBs
    have hcn : wr.cell? ⟨Bn, 0, none⟩ = some (.int .i64 256) := (World.cell?_of_block (HK.out Bn hBn1 hBn2)).trans hBn
    by_cases hlt : k < nch len
    · have hp : p < len := by have := HP.out; unfold nch at hlt; omega
      obtain ⟨a, rfl⟩ := hA (by omega)
      have hpi : (p : Int) < (len : Int) := by omega
      have hp0 : (0 : Int) ≤ (p : Int) := by omega
      have hp1 : (p : Int) ≤ (len : Int) := by omega
      have hp2 : (p : Int) ≤ (cap : Int) := by omega
      have HLT := Aside0.mk hlt
      have hm0 : (0 : Int) < ((len - p : Nat) : Int) := by omega
      clear hBs hBn h0 hk
      gi_wp2
      gi_quiet (fail)
      obtain ⟨fn, tmps, assign, body, hy, hR⟩ := hY _ ⟨k, hlt⟩ (wr.drewN nq) (hJd _ _ _ HJ.out (grownBy_drewN wr nq)) (by rw [pre_len (by have := HLT.out; omega)]; exact HLT.out)
      have e1 : (if ((len - p : Nat) : Int) < 256 then ((len - p : Nat) : Int) else 256) = ((plen len k : Nat) : Int) := by
        have := HP.out
        unfold plen
        split <;> omega
      have e2 : 256 * k = p := HP.out.symm
      rw [e1]
      have hq : plen len k ≤ len - p := by unfold plen; omega
      dsimp only [Option.map_some] at hy hR
      rw [e2] at hy
      have hq1 : (p : Int) + ((plen len k : Nat) : Int) ≤ (cap : Int) := by omega
      have hq2 : (p : Int) + ((plen len k : Nat) : Int) ≤ (len : Int) := by omega
      have hq3 : (p : Int) ≤ (p : Int) + ((plen len k : Nat) : Int) := by omega
      have hq4 : (0 : Int) ≤ ((plen len k : Nat) : Int) := by omega
      have hq5 : ¬ plen len k = 0 := by have := HP.out; unfold plen; omega
      have hq6 : ¬ p + plen len k = p := by omega
      have HR := Aside0.mk hR
      clear e1 hR e2
      generalize plen len k = m at hy hq hq1 hq2 hq3 hq4 hq5 hq6 ⊢
      gi_wp2
      refine ⟨(fun h => by cases h), HR.out.mono ?_⟩
      rintro e W3 (⟨rfl, hJ3, hk3⟩ | ⟨rfl, hJx3⟩)
      · have hcn3 : W3.cell? ⟨Bn, 0, none⟩ = some (.int .i64 256) := (World.cell?_of_block (hk3 Bn hBn1 hBn2)).trans hcn
        have HJ3 := Aside0.mk hJ3
        have HK3 := Aside0.mk (KpB.trans HK.out hk3)
        clear hJ3 hk3 hy
        gi_wp2
        go_roundw
        case rel => exact ⟨k + 1, p + 256, by have := HLT.out; omega, ⟨by have := HP.out; omega⟩, by go_num, ⟨by rw [pre_snoc HLT.out]; exact HJ3.out⟩, HK3⟩
        case measure => simp [intOf]; omega
      · have HX := Aside0.mk hJx3
        clear hJx3 hy
        gi_wp2
        refine bodyPost_ret (results_none rfl _ _ _) rfl ?_
        exact ⟨⟨_, rfl⟩, .inr ⟨k + 1, by have := HLT.out; omega, by rw [pre_snoc HLT.out]; exact HX.out⟩⟩
    · have hp : ¬ p < len := by have := HP.out; unfold nch at hlt hk; omega
      have hpi : decide ((p : Int) < (len : Int)) = false := decide_eq_false (by omega)
      have hkn : k = nch len := by omega
      clear hBs hBn h0
      gi_wp2
      go_end0
      exact ⟨⟨_, rfl⟩, .inl (by have h := HJ.out; rw [hkn, pre_all] at h; exact h)⟩

set_option maxHeartbeats 1000000 in
theorem chunk_in (n : Nat) (A : Option Addr) (len cap : Nat) (w : World) :
    CallsIn Fence.wide n Try.prog 63 #[.slice A len cap, .int .i64 256] w fun e w' => e = .returned (.func (.func 78) #[] #[.pointer (some ⟨w.heap.size, 0, none⟩), .pointer (some ⟨w.heap.size + 1, 0, none⟩)]) ∧ w' = (w.alloc (.cells #[.slice A len cap] 22)).alloc (.cells #[.int .i64 256] 3) := by
  refine callsIn_of_wp Try.func63 rfl trivial ?_ rfl
  simp only [Try.ntmps63, List.size_toArray, List.length_cons, List.length_nil, Nat.reduceAdd, Nat.reduceSub, Array.replicate_succ, Array.replicate_zero, List.push_toArray, List.append_toArray, List.nil_append, List.cons_append]
  gi_wp2
  go_ret
  exact ⟨rfl, rfl⟩

/-- The slice's cells lie in a block below n1 that the body keeps, or there are none. -/
theorem chunk_stops (n : Nat) (Bs Bn n1 Bo : Nat) (A : Option Addr) (len cap : Nat) (hlc : len ≤ cap) (hlen : len < 140737488355328) (hA : 0 < len → ∃ a, A = some a) (hBs1 : Bs < n1) (hBs2 : Bs ≠ Bo) (hBn1 : Bn < n1) (hBn2 : Bn ≠ Bo) (w : World) (hn1 : n1 ≤ w.heap.size)
    (hBs : w.cell? ⟨Bs, 0, none⟩ = some (.slice A len cap)) (hBn : w.cell? ⟨Bn, 0, none⟩ = some (.int .i64 256)) :
    SeqStopsK Fence.wide n Try.prog 78 #[.pointer (some ⟨Bs, 0, none⟩), .pointer (some ⟨Bn, 0, none⟩)] (fun x : Fin (nch len) => #[.slice (A.map (fun a => a.add (256 * x))) (plen len x) (plen len x)]) (KpB n1 Bo) (fun ys => ys = List.finRange (nch len)) (fun ps => ∃ k, k ≤ nch len ∧ ps = pre (nch len) k) (nch len) w := by
  intro l J Jx W hW hJ hJx hY h0
  have hb := fun k (hk : k < n1) => hW.block k (by omega)
  have hcs := (World.cell?_of_block (a := ⟨Bs, 0, none⟩) (hb Bs hBs1)).trans hBs
  have hcn := (World.cell?_of_block (a := ⟨Bn, 0, none⟩) (hb Bn hBn1)).trans hBn
  refine (chunk1_in n l Bs Bn n1 Bo A len cap hlc hlen hA hBs1 hBs2 hBn1 hBn2 J Jx hY W hcs hcn h0 (fun ps X Y hX hg => hJ ps X Y none hX hg (fun r e => by cases e))).mono ?_
  rintro e W' ⟨he, h | ⟨k, hk, h⟩⟩
  · exact ⟨he, .inl ⟨_, rfl, h⟩⟩
  · exact ⟨he, .inr ⟨_, ⟨k, hk, rfl⟩, h⟩⟩
end Go.Proofs.Ytobljmgoengofaa.Chunk
/- alloc.Cut: what it hands back. -/
namespace Go.Proofs.Ytobljmgoengofaa.Cut
open Go.RowKit Go.Proofs.Ytobljmgoengofaa.Base Go.Proofs.Ytobljmgoengofaa.Chunk Go.Proofs.Ytobljmgoengofaa.Fence0 Go.Proofs.YtobljmgoengofaaW.PrintWords Go.Proofs.YtobljmgoengofaaW.PrintLast Go.Proofs.YtobljmgoengofaaW.PrintMore

attribute [local go_sem] Oper.semAt_some

/-- A row of one's own, where no block with cells was written. -/
theorem R_own' {α : Type} {d : Kd α} {e base : Nat} {ok : Nat → Prop} {W W1 : World} {v : Value} {xs : List α} {row : Option Nat} (h : d.R e W base ok v xs) (hg : W.grownBy W1 row) (hr : ∀ r, row = some r → ∃ o : Obj, W.heap[r]? = some o ∧ o.isCells = false) : d.R e W1 base ok v xs := by
  refine Kd.R_mono (Kd.R_move (Kd.R_bound h) (fun k hk => hg.block k hk.2.2.1 (fun e => ?_))) (fun _ hk => hk.1)
  obtain ⟨o, ho, hc⟩ := hr k e.symm
  obtain ⟨_, _, _, q, _, cells, hcs⟩ := hk
  rw [hcs] at ho
  cases ho
  simp [Obj.isCells] at hc
theorem blk_own {W W1 : World} {b : Nat} {cs : Array Value} {t : TypeId} {fr : Nat × Nat} {row : Option Nat} (h : W.heap[b]? = some (.cells cs t fr)) (hg : W.grownBy W1 row) (hr : ∀ r, row = some r → ∃ o : Obj, W.heap[r]? = some o ∧ o.isCells = false) : W1.heap[b]? = some (.cells cs t fr) := by
  refine (hg.block b (blk_lt h) (fun e => ?_)).trans h
  obtain ⟨o, ho, hc⟩ := hr b e.symm
  rw [h] at ho
  cases ho
  simp [Obj.isCells] at hc
/-- Piece k's bytes. -/
def piece (b : List Int) (k : Nat) : List Int := (b.drop (256 * k)).take (plen b.length k)
theorem piece_len (b : List Int) (k : Nat) : (piece b k).length = plen b.length k := by
  unfold piece plen
  rw [List.length_take, List.length_drop]
  omega
/-- What a piece reads as. -/
theorem piece_reads {W : World} {A : Option Addr} {b : List Int} (h : Rb W A b) (k : Nat) : Kd.C (Kd.int .u8) W (A.map (fun a => a.add (256 * k))) (plen b.length k) (piece b k) := by
  have h' := Kd.reads_of_C (d := (0 : Int)) h
  refine Kd.C_of_reads (d := (0 : Int)) ⟨piece_len b k, by have := h'.2.1; unfold plen; omega, fun h0 => ?_⟩
  have hk : 256 * k < b.length := by unfold plen at h0; omega
  obtain ⟨ad, rfl, hc⟩ := h'.2.2 (by omega)
  refine ⟨_, rfl, fun j hj => ?_⟩
  have hj2 : 256 * k + j < b.length := by unfold plen at hj; omega
  rw [Addr.add_add, hc _ hj2]
  congr 2
  unfold piece
  rw [List.getD_eq_getElem?_getD, List.getD_eq_getElem?_getD, List.getElem?_take_of_lt hj, List.getElem?_drop]
/-- Piece k as a sector. -/
def sector (b : List Int) (k : Nat) : List Int := piece b k ++ List.replicate (256 - plen b.length k) 0
abbrev KR : Kd (List Int) := Kd.slice 5 (Kd.int .u8)
def I (w : World) (Bo n1 : Nat) (b : List Int) (ps : List (Fin (nch b.length))) (W : World) : Prop :=
  ∃ v, W.heap[Bo]? = some (.cells #[v] 40 (0, 0)) ∧ KR.R 22 W w.heap.size (fun k => n1 ≤ k) v (ps.map (fun x : Fin (nch b.length) => sector b x)) ∧ Below w.heap.size w W ∧ n1 ≤ W.heap.size
theorem I_own {w : World} {Bo n1 : Nat} {b : List Int} (hw : w.heap.size ≤ n1) : OwnFrom n1 (I w Bo n1 b) := by
  rintro s W W1 row ⟨v, h1, h2, h3, h4⟩ hg hr
  have hr2 := fun r e => (hr r e).2
  exact ⟨v, blk_own h1 hg hr2, R_own' h2 hg hr2, h3.grown hg h3.size (fun k e => Nat.le_trans hw (hr k e).1), Nat.le_trans h4 hg.size⟩

end Go.Proofs.Ytobljmgoengofaa.Cut
/- Pages: the plain law. -/
namespace Go.Proofs.Ytobljmgoengofaa.PagePlain
open Go.RowKit Go.Proofs.Ytobljmgoengofaa.Chunk Go.Proofs.Ytobljmgoengofaa.Cut

/-- Bytes as pages. -/
def paged (l : List Int) : List Int := if _h : l = [] then [] else 240 :: (l.take 255 ++ paged (l.drop 255))
termination_by l.length
decreasing_by
  have : 0 < l.length := List.length_pos_iff.2 (by assumption)
  rw [List.length_drop]
  omega
theorem paged_nil : paged [] = [] := by rw [paged]; simp
theorem paged_cons {l : List Int} (h : l ≠ []) : paged l = 240 :: (l.take 255 ++ paged (l.drop 255)) := by rw [paged, dif_neg h]
def good (l : List Int) : Bool := decide (l.head? = some 240) && decide (l.length ≠ 1)
/-- The bytes of pages: what stands behind each tag; and whether they are pages. -/
def strip (b : List Int) : List Int := ((List.range (nch b.length)).map (fun k => (piece b k).tail)).flatten
def allG (b : List Int) : Bool := (List.range (nch b.length)).all (fun k => good (piece b k))
def wholeS (b : List Int) : List Int × Bool := if allG b = true then (strip b, true) else ([], false)

end Go.Proofs.Ytobljmgoengofaa.PagePlain
