import Derived.Test.YtbebkogkeepfoaaShaEq
/- ShaNil: the law's walk. -/
namespace Go.Proofs.Ytbebkogkeepfoaa.Sha
set_option linter.unusedVariables false
open Go.RowKit Go.Proofs.Ytbebkogkeepfoaa.Base Go.Proofs.Ytbebkogkeepfoaa.ShaPlain Go.Proofs.Ytbebkogkeepfoaa.Aid Go.Proofs.YtbebkogkeepfoaaW.PrintWords Go.Proofs.YtbebkogkeepfoaaW.PrintLast Go.Proofs.YtbebkogkeepfoaaW.PrintMore
set_option maxHeartbeats 2000000 in
theorem write_nil (v : Value) (w : World) : Calls Try.prog 19 #[.pointer none, v] w fun e w' => e = .returned (.tuple #[]) ∧ w = w' := by
  go_enter Try.func19, Try.ntmps19
  go_wp2
  exact bodyPost_ret (results_none rfl _ _ _) rfl ⟨rfl, rfl⟩
set_option maxHeartbeats 2000000 in
theorem write_unmade (g : Nat) (v : Value) (w : World) (h : w.cell? ⟨g, 0, none⟩ = some (.bool false)) : Calls Try.prog 19 #[.pointer (some ⟨g, 0, none⟩), v] w fun e w' => e = .returned (.tuple #[]) ∧ w = w' := by
  go_enter Try.func19, Try.ntmps19
  go_wp2
  exact bodyPost_ret (results_none rfl _ _ _) rfl ⟨rfl, rfl⟩
abbrev zero32 : List Int := List.replicate 32 0
theorem second_new (w : World) (Z o : Obj) : ((w.alloc Z).alloc o).heap[w.heap.size + 1]? = some o := by
  have h := blk_new (w.alloc Z) o
  simpa using h
set_option maxHeartbeats 2000000 in
set_option maxRecDepth 100000 in
theorem sum_none (w : World) (p : Value) (hp : p = .pointer none ∨ ∃ g : Nat, p = .pointer (some ⟨g, 0, none⟩) ∧ w.cell? ⟨g, 0, none⟩ = some (.bool false)) : Calls Try.prog 20 #[p] w fun e w' => e = .returned (sumV zero32) ∧ Below w.heap.size w w' := by
  obtain ⟨Z, hZ⟩ : ∃ Z, (nums .u8 zero32).toArray = Z := ⟨_, rfl⟩
  have hzs : Z.size = 32 := by rw [← hZ]; simp [nums]
  have HI := Aside0.mk (show (Try.prog.info? 24).map (·.size) = some Z.size by rw [hzs]; exact info_32)
  have HONE := Aside0.mk (show Z.all (·.oneCell') = true by rw [← hZ]; exact nums_one _ _)
  have HB := Aside0.mk (below_alloc (below_alloc (Below.refl w.heap.size w) (.cells Z 24)) (.cells Z 24))
  have HZS := Aside0.mk hzs
  have HZ := Aside0.mk hZ
  have H2 := Aside0.mk (show ((w.alloc (.cells Z 24)).alloc (.cells Z 24)).heap[w.heap.size]? = some (.cells Z 24 (0, 0)) from blk_alloc (blk_new _ _) _)
  have H3 := Aside0.mk (show ((w.alloc (.cells Z 24)).alloc (.cells Z 24)).heap[w.heap.size + 1]? = some (.cells Z 24 (0, 0)) from second_new _ _ _)
  have HW := Aside0.mk (show w.alloc (.cells (nums .u8 zero32).toArray 24) = w.alloc (.cells Z 24) by rw [hZ])
  clear hzs hZ
  rcases hp with rfl | ⟨g, rfl, hc⟩
  all_goals
    (try (have hlt := World.block_lt_of_cell? _ _ hc; dsimp only at hlt; have hlt1 : g < w.heap.size + 1 := by omega))
    go_enter Try.func20, Try.ntmps20
    go_wp2_with (first
      | ((with_reducible refine gate_dst (N := 17) rfl ?_); go_must (rw [show Obj.cells _ 24 (0, 0) = Obj.cells Z 24 (0, 0) from by rw [← HZ.out]; rfl]); go_must (refine wpList_load_row rfl 24 (.tmp 3) rfl (w.heap.size + 1) rfl 24 Z (0, 0) _ H3.out Try.underlying24 rfl HI.out ?_))
      | ((with_reducible refine gate_store (t := 24) (p := 2) (v := .tmp 17) rfl ?_); go_must (refine wpList_store_row rfl 24 (.tmp 2) (.tmp 17) rfl w.heap.size Z rfl rfl 24 Z H2.out HI.out rfl HONE.out ?_)))
    have HSR := setRow_heap _ w.heap.size Z Z _ _ H2.out
    refine bodyPost_ret (v := .agg Z) (results_cell_row rfl _ _ w.heap.size 24 Z (0, 0) _ rfl HSR Try.underlying24 rfl HI.out) rfl ⟨by rw [← HZ.out], below_setRow HB.out (Nat.le_refl _) Z⟩
theorem zero_lit : sumV zero32 = .agg #[.int .u8 0, .int .u8 0, .int .u8 0, .int .u8 0, .int .u8 0, .int .u8 0, .int .u8 0, .int .u8 0, .int .u8 0, .int .u8 0, .int .u8 0, .int .u8 0, .int .u8 0, .int .u8 0, .int .u8 0, .int .u8 0, .int .u8 0, .int .u8 0, .int .u8 0, .int .u8 0, .int .u8 0, .int .u8 0, .int .u8 0, .int .u8 0, .int .u8 0, .int .u8 0, .int .u8 0, .int .u8 0, .int .u8 0, .int .u8 0, .int .u8 0, .int .u8 0] := rfl
theorem eq_zero (w : World) : (Op.equalIn 10000 24 (.agg #[.int .u8 0, .int .u8 0, .int .u8 0, .int .u8 0, .int .u8 0, .int .u8 0, .int .u8 0, .int .u8 0, .int .u8 0, .int .u8 0, .int .u8 0, .int .u8 0, .int .u8 0, .int .u8 0, .int .u8 0, .int .u8 0, .int .u8 0, .int .u8 0, .int .u8 0, .int .u8 0, .int .u8 0, .int .u8 0, .int .u8 0, .int .u8 0, .int .u8 0, .int .u8 0, .int .u8 0, .int .u8 0, .int .u8 0, .int .u8 0, .int .u8 0, .int .u8 0]) (.agg #[.int .u8 0, .int .u8 0, .int .u8 0, .int .u8 0, .int .u8 0, .int .u8 0, .int .u8 0, .int .u8 0, .int .u8 0, .int .u8 0, .int .u8 0, .int .u8 0, .int .u8 0, .int .u8 0, .int .u8 0, .int .u8 0, .int .u8 0, .int .u8 0, .int .u8 0, .int .u8 0, .int .u8 0, .int .u8 0, .int .u8 0, .int .u8 0, .int .u8 0, .int .u8 0, .int .u8 0, .int .u8 0, .int .u8 0, .int .u8 0, .int .u8 0, .int .u8 0])).run Try.prog w = .ok true w := by
  have h := run_eq_sum zero32 zero32 (by simp) (by simp) w
  rw [decide_eq_true rfl] at h
  exact h
set_option maxHeartbeats 4000000 in
set_option maxRecDepth 100000 in
theorem nil_walk (w : World) (A : Option Addr) (c : Nat) (b : List Int) :
    Calls Try.prog 5 #[.slice A b.length c] w fun e w' => e = .returned (.bool true) ∧ Below w.heap.size w w' := by
  have hg := guard_32
  have hez := eq_zero
  by_cases hl : 1000 < b.length
  · have hd : decide ((1000 : Int) < (b.length : Int)) = true := decide_eq_true (by omega)
    go_enter Try.func5, Try.ntmps5
    go_wp2_with (go_at_call 13; refine (live_c _).mono ?_; rintro e w' ⟨rfl, hb⟩)
    go_ret
    exact ⟨rfl, hb⟩
  · have hd : decide ((1000 : Int) < (b.length : Int)) = false := decide_eq_false (by omega)
    clear hl
    go_enter Try.func5, Try.ntmps5
    go_wp2_with (fail)
    refine (write_nil _ _).mono ?_
    rintro e w1 ⟨rfl, rfl⟩
    go_wp2_with (fail)
    refine (write_unmade _ _ _ (by rw [World.cell?_alloc_new]; rfl)).mono ?_
    rintro e w1 ⟨rfl, rfl⟩
    have HB := Aside0.mk (below_alloc (Below.refl w.heap.size w) (.cells Try.zeroCells40 40))
    have hc0 : (w.alloc (.cells Try.zeroCells40 40)).cell? ⟨w.heap.size, 0, none⟩ = some (.bool false) := by rw [World.cell?_alloc_new]; rfl
    have HC := Aside0.mk hc0
    clear hc0
    go_wp2_with (fail)
    refine (sum_none _ _ (.inl rfl)).mono ?_
    rintro e w2 ⟨rfl, hb⟩
    have HC2 := Aside0.mk ((hb.cell (World.block_lt_of_cell? _ _ HC.out)).trans HC.out)
    have n1_ := Aside0.mk (below_step HB.out hb); clear HB; have HB := n1_; clear n1_
    clear hb HC
    rw [zero_lit]
    go_wp2_with (fail)
    refine (sum_none _ _ (.inr ⟨_, rfl, HC2.out⟩)).mono ?_
    rintro e w3 ⟨rfl, hb⟩
    have n1_ := Aside0.mk (below_step HB.out hb); clear HB; have HB := n1_; clear n1_
    clear hb
    rw [zero_lit]
    go_wp2_with (fail)
    refine (live_c _).mono ?_
    rintro e w4 ⟨rfl, hb⟩
    have n1_ := Aside0.mk (below_step HB.out hb); clear HB; have HB := n1_; clear n1_
    clear hb
    go_wp2_with (fail)
    go_ret
    exact ⟨rfl, HB.out⟩
theorem nilWalk (w : World) (A : Option Addr) (c : Nat) (b : List Int) (_ : Kd.C (Kd.int .u8) w A b.length b) (_ : b.length ≤ c) (_ : ∀ x ∈ b, (Lit.int .u8 x).wf = true) :
    Calls Try.prog 5 #[.slice A b.length c] w fun e w' => e = .returned (.bool true) ∧ Below w.heap.size w w' := nil_walk w A c b
end Go.Proofs.Ytbebkogkeepfoaa.Sha
