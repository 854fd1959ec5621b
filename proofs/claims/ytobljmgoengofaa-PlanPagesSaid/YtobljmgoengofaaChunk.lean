import Derived.Test.YtobljmgoengofaaFence
/- slices.Chunk: the iterator's contract, for every loop body that keeps the slice's cells. -/
namespace Go.Proofs.Ytobljmgoengofaa.Chunk
open Go.RowKit Go.Shelf Go.Proofs.Ytobljmgoengofaa.Base Go.Proofs.YtobljmgoengofaaW.PrintWords Go.Proofs.YtobljmgoengofaaW.PrintLast Go.Proofs.YtobljmgoengofaaW.PrintMore

attribute [local go_sem] Oper.semAt_some

/-- How many pieces there are. -/
def nch (len : Nat) : Nat := (len + 255) / 256
/-- How long piece k is. -/
def plen (len k : Nat) : Nat := min 256 (len - 256 * k)
/-- What the loop's body keeps: every elder block but one. -/
def KpB (n1 Bo : Nat) (A B : World) : Prop := ∀ k, k < n1 → k ≠ Bo → B.heap[k]? = A.heap[k]?
theorem KpB.refl (n1 Bo : Nat) (A : World) : KpB n1 Bo A A := fun _ _ _ => rfl
theorem KpB.trans {n1 Bo : Nat} {A B C : World} (h : KpB n1 Bo A B) (k : KpB n1 Bo B C) : KpB n1 Bo A C := fun i h1 h2 => (k i h1 h2).trans (h i h1 h2)
theorem KpB.put {n1 Bo : Nat} (W : World) (l : Nat) (o o' : Obj) (hl : n1 ≤ l) (_ : W.heap[l]? = some o) (_ : o.isCells = false) (_ : o.isWalk = false) : KpB n1 Bo W (W.putObj l o') :=
  fun k h1 _ => World.putObj_heap_other (by omega)
def pre (n k : Nat) : List (Fin n) := (List.finRange n).take k
theorem pre_len {n k : Nat} (h : k ≤ n) : (pre n k).length = k := by simp [pre]; omega
theorem pre_snoc {n k : Nat} (h : k < n) : pre n (k + 1) = pre n k ++ [⟨k, h⟩] := by
  unfold pre
  rw [List.take_succ_eq_append_getElem (by simpa using h)]
  simp
theorem pre_all (n : Nat) : pre n n = List.finRange n := by unfold pre; exact List.take_of_length_le (by simp)

theorem grownBy_drewN (w : World) (n : Nat) : w.grownBy (w.drewN n) none := ⟨rfl, rfl, rfl, Nat.le_refl _, fun _ _ _ => rfl⟩
set_option maxRecDepth 100000 in
set_option maxHeartbeats 2000000 in
theorem chunk1_in (n : Nat) (l Bs Bn n1 Bo : Nat) (A : Option Addr) (len cap : Nat) (hlc : len ≤ cap) (hlen : len < 140737488355328) (hA : 0 < len → ∃ a, A = some a) (hBs1 : Bs < n1) (hBs2 : Bs ≠ Bo) (hBn1 : Bn < n1) (hBn2 : Bn ≠ Bo) (J Jx : List (Fin (nch len)) → World → Prop)
    (hY : ∀ (ps : List (Fin (nch len))) (x : Fin (nch len)) (W : World), J ps W → ps.length < nch len → YieldAt Fence.wide (n - 1) Try.prog l #[.slice (A.map (fun a => a.add (256 * x))) (plen len x) (plen len x)] W fun e W' =>
      (e = .returned (.bool true) ∧ J (ps ++ [x]) W' ∧ KpB n1 Bo W W') ∨ (e = .returned (.bool false) ∧ Jx (ps ++ [x]) W'))
    (W : World) (hBs : W.cell? ⟨Bs, 0, none⟩ = some (.slice A len cap)) (hBn : W.cell? ⟨Bn, 0, none⟩ = some (.int .i64 256)) (h0 : J [] W) (hJd : ∀ ps A B, J ps A → A.grownBy B none → J ps B) :
    CallsIn Fence.wide n Try.prog 78 #[.func (.yield l) #[] #[], .pointer (some ⟨Bs, 0, none⟩), .pointer (some ⟨Bn, 0, none⟩)] W fun e W' => (∃ v, e = .returned v) ∧
      (J (List.finRange (nch len)) W' ∨ (∃ k, k ≤ nch len ∧ Jx (pre (nch len) k) W')) := by
  refine callsIn_of_wp Try.func78 rfl trivial ?_ rfl
  simp only [Try.ntmps78, List.size_toArray, List.length_cons, List.length_nil, Nat.reduceAdd, Nat.reduceSub, Array.replicate_succ, Array.replicate_zero, List.push_toArray, List.append_toArray, List.nil_append, List.cons_append]
  gi_wp2
  gi_loopw [4] (fun i wr => ∃ k p : Nat, k ≤ nch len ∧ Aside0 (p = 256 * k) ∧ i = .int .i64 p ∧ Aside0 (J (pre (nch len) k) wr) ∧ Aside0 (KpB n1 Bo W wr))
    (fun i _ => len + 256 - (intOf i).toNat)
  case atStart => exact ⟨0, 0, Nat.zero_le _, ⟨rfl⟩, rfl, ⟨by simpa [pre] using h0⟩, ⟨KpB.refl _ _ _⟩⟩
  case round =>
    obtain ⟨k, p, hk, HP, rfl, HJ, HK⟩ := hrel
    have hcs : wr.cell? ⟨Bs, 0, none⟩ = some (.slice A len cap) := (World.cell?_of_block (HK.out Bs hBs1 hBs2)).trans hBs
    have hcn : wr.cell? ⟨Bn, 0, none⟩ = some (.int .i64 256) := (World.cell?_of_block (HK.out Bn hBn1 hBn2)).trans hBn
    by_cases hlt : k < nch len
    · have hp : p < len := by have := HP.out; unfold nch at hlt; omega
      obtain ⟨a, rfl⟩ := hA (by omega)
      have hpi : (p : Int) < (len : Int) := by omega
      have hp0 : (0 : Int) ≤ (p : Int) := by omega
      have hp1 : (p : Int) ≤ (len : Int) := by omega
      have hp2 : (p : Int) ≤ (cap : Int) := by omega
      have HLT := Aside0.mk hlt
      have hm0 : (0 : Int) < ((len - p : Nat) : Int) := by omega
      clear hBs hBn h0 hk
      gi_wp2
      gi_quiet (fail)
      obtain ⟨fn, tmps, assign, body, hy, hR⟩ := hY _ ⟨k, hlt⟩ (wr.drewN nq) (hJd _ _ _ HJ.out (grownBy_drewN wr nq)) (by rw [pre_len (by have := HLT.out; omega)]; exact HLT.out)
      have e1 : (if ((len - p : Nat) : Int) < 256 then ((len - p : Nat) : Int) else 256) = ((plen len k : Nat) : Int) := by
        have := HP.out
        unfold plen
        split <;> omega
      have e2 : 256 * k = p := HP.out.symm
      rw [e1]
      have hq : plen len k ≤ len - p := by unfold plen; omega
      dsimp only [Option.map_some] at hy hR
      rw [e2] at hy
      have hq1 : (p : Int) + ((plen len k : Nat) : Int) ≤ (cap : Int) := by omega
      have hq2 : (p : Int) + ((plen len k : Nat) : Int) ≤ (len : Int) := by omega
      have hq3 : (p : Int) ≤ (p : Int) + ((plen len k : Nat) : Int) := by omega
      have hq4 : (0 : Int) ≤ ((plen len k : Nat) : Int) := by omega
      have hq5 : ¬ plen len k = 0 := by have := HP.out; unfold plen; omega
      have hq6 : ¬ p + plen len k = p := by omega
      have HR := Aside0.mk hR
      clear e1 hR e2
      generalize plen len k = m at hy hq hq1 hq2 hq3 hq4 hq5 hq6 ⊢
      gi_wp2
      refine ⟨(fun h => by cases h), HR.out.mono ?_⟩
      rintro e W3 (⟨rfl, hJ3, hk3⟩ | ⟨rfl, hJx3⟩)
      · have hcn3 : W3.cell? ⟨Bn, 0, none⟩ = some (.int .i64 256) := (World.cell?_of_block (hk3 Bn hBn1 hBn2)).trans hcn
        have HJ3 := Aside0.mk hJ3
        have HK3 := Aside0.mk (KpB.trans HK.out hk3)
        clear hJ3 hk3 hy
        gi_wp2
        go_roundw
        case rel => exact ⟨k + 1, p + 256, by have := HLT.out; omega, ⟨by have := HP.out; omega⟩, by go_num, ⟨by rw [pre_snoc HLT.out]; exact HJ3.out⟩, HK3⟩
        case measure => simp [intOf]; omega
      · have HX := Aside0.mk hJx3
        clear hJx3 hy
        gi_wp2
        refine bodyPost_ret (results_none rfl _ _ _) rfl ?_
        exact ⟨⟨_, rfl⟩, .inr ⟨k + 1, by have := HLT.out; omega, by rw [pre_snoc HLT.out]; exact HX.out⟩⟩
    · have hp : ¬ p < len := by have := HP.out; unfold nch at hlt hk; omega
      have hpi : decide ((p : Int) < (len : Int)) = false := decide_eq_false (by omega)
      have hkn : k = nch len := by omega
      clear hBs hBn h0
      gi_wp2
      go_end0
      exact ⟨⟨_, rfl⟩, .inl (by have h := HJ.out; rw [hkn, pre_all] at h; exact h)⟩

set_option maxHeartbeats 1000000 in
theorem chunk_in (n : Nat) (A : Option Addr) (len cap : Nat) (w : World) :
    CallsIn Fence.wide n Try.prog 63 #[.slice A len cap, .int .i64 256] w fun e w' => e = .returned (.func (.func 78) #[] #[.pointer (some ⟨w.heap.size, 0, none⟩), .pointer (some ⟨w.heap.size + 1, 0, none⟩)]) ∧ w' = (w.alloc (.cells #[.slice A len cap] 22)).alloc (.cells #[.int .i64 256] 3) := by
  refine callsIn_of_wp Try.func63 rfl trivial ?_ rfl
  simp only [Try.ntmps63, List.size_toArray, List.length_cons, List.length_nil, Nat.reduceAdd, Nat.reduceSub, Array.replicate_succ, Array.replicate_zero, List.push_toArray, List.append_toArray, List.nil_append, List.cons_append]
  gi_wp2
  go_ret
  exact ⟨rfl, rfl⟩

/-- The slice's cells lie in a block below n1 that the body keeps, or there are none. -/
theorem chunk_stops (n : Nat) (Bs Bn n1 Bo : Nat) (A : Option Addr) (len cap : Nat) (hlc : len ≤ cap) (hlen : len < 140737488355328) (hA : 0 < len → ∃ a, A = some a) (hBs1 : Bs < n1) (hBs2 : Bs ≠ Bo) (hBn1 : Bn < n1) (hBn2 : Bn ≠ Bo) (w : World) (hn1 : n1 ≤ w.heap.size)
    (hBs : w.cell? ⟨Bs, 0, none⟩ = some (.slice A len cap)) (hBn : w.cell? ⟨Bn, 0, none⟩ = some (.int .i64 256)) :
    SeqStopsK Fence.wide n Try.prog 78 #[.pointer (some ⟨Bs, 0, none⟩), .pointer (some ⟨Bn, 0, none⟩)] (fun x : Fin (nch len) => #[.slice (A.map (fun a => a.add (256 * x))) (plen len x) (plen len x)]) (KpB n1 Bo) (fun ys => ys = List.finRange (nch len)) (fun ps => ∃ k, k ≤ nch len ∧ ps = pre (nch len) k) (nch len) w := by
  intro l J Jx W hW hJ hJx hY h0
  have hb := fun k (hk : k < n1) => hW.block k (by omega)
  have hcs := (World.cell?_of_block (a := ⟨Bs, 0, none⟩) (hb Bs hBs1)).trans hBs
  have hcn := (World.cell?_of_block (a := ⟨Bn, 0, none⟩) (hb Bn hBn1)).trans hBn
  refine (chunk1_in n l Bs Bn n1 Bo A len cap hlc hlen hA hBs1 hBs2 hBn1 hBn2 J Jx hY W hcs hcn h0 (fun ps X Y hX hg => hJ ps X Y none hX hg (fun r e => by cases e))).mono ?_
  rintro e W' ⟨he, h | ⟨k, hk, h⟩⟩
  · exact ⟨he, .inl ⟨_, rfl, h⟩⟩
  · exact ⟨he, .inr ⟨_, ⟨k, hk, rfl⟩, h⟩⟩
end Go.Proofs.Ytobljmgoengofaa.Chunk
