import Derived.Test.YtbebkogkeepfoaaBase
import Derived.Test.YtbebkogkeepfoaaShaPlain
/- Words turned to the right: the walks. -/
namespace Go.Proofs.Ytbebkogkeepfoaa.Sha
set_option linter.unusedVariables false
open Go.RowKit Go.Proofs.Ytbebkogkeepfoaa.Base Go.Proofs.Ytbebkogkeepfoaa.ShaPlain Go.Proofs.YtbebkogkeepfoaaW.PrintWords Go.Proofs.YtbebkogkeepfoaaW.PrintLast Go.Proofs.YtbebkogkeepfoaaW.PrintMore

set_option maxHeartbeats 800000 in
theorem rot_2 (x : Int) (w : World) (h0 : 0 ≤ x) (h1 : x ≤ 4294967295) : Calls Try.prog 75 #[.int .u32 x, .int .i64 (-2)] w fun e w' => e = .returned (.int .u32 (rot 4 1073741824 x)) ∧ w = w' := by
  have e : bits BinOp.and IntKind.u64 (IntKind.u64.wrap (-2)) 31 = 30 := by decide +kernel
  go_enter Try.func75, Try.ntmps75
  go_wp2
  go_ret
  exact ⟨rfl, rfl⟩
set_option maxHeartbeats 800000 in
theorem right_2 (x : Int) (w : World) (h0 : 0 ≤ x) (h1 : x ≤ 4294967295) : Calls Try.prog 71 #[.int .u32 x, .int .i64 2] w fun e w' => e = .returned (.int .u32 (rot 4 1073741824 x)) ∧ w = w' := by
  go_enter Try.func71, Try.ntmps71
  go_wp2_with (go_at_call 75; refine (rot_2 x _ h0 h1).mono ?_; rintro e w' ⟨rfl, rfl⟩)
  go_ret
  exact ⟨rfl, rfl⟩
theorem rightq_2 (x : Int) (w : World) (m : Nat) (h : 0 ≤ x ∧ x ≤ 4294967295) : Calls Try.prog 71 #[.int .u32 x, .int .i64 2] (w.drewN m) fun e w'' => e = .returned (.int .u32 (rot 4 1073741824 x)) ∧ ∃ m', w'' = w.drewN m' :=
  (right_2 x _ h.1 h.2).mono fun _ _ ⟨he, hw⟩ => ⟨he, m, hw.symm⟩
set_option maxHeartbeats 800000 in
theorem turn_2 (x : Int) (w : World) (h0 : 0 ≤ x) (h1 : x ≤ 4294967295) : Calls Try.prog 69 #[.int .u32 x, .int .u64 2] w fun e w' => e = .returned (.int .u32 (rot 4 1073741824 x)) ∧ w = w' := by
  go_enter Try.func69, Try.ntmps69
  go_wp2
  go_ret
  exact ⟨congrArg (fun z => Ending.returned (Value.int .u32 z)) (or_comm _ _), rfl⟩

set_option maxHeartbeats 800000 in
theorem rot_6 (x : Int) (w : World) (h0 : 0 ≤ x) (h1 : x ≤ 4294967295) : Calls Try.prog 75 #[.int .u32 x, .int .i64 (-6)] w fun e w' => e = .returned (.int .u32 (rot 64 67108864 x)) ∧ w = w' := by
  have e : bits BinOp.and IntKind.u64 (IntKind.u64.wrap (-6)) 31 = 26 := by decide +kernel
  go_enter Try.func75, Try.ntmps75
  go_wp2
  go_ret
  exact ⟨rfl, rfl⟩
set_option maxHeartbeats 800000 in
theorem right_6 (x : Int) (w : World) (h0 : 0 ≤ x) (h1 : x ≤ 4294967295) : Calls Try.prog 71 #[.int .u32 x, .int .i64 6] w fun e w' => e = .returned (.int .u32 (rot 64 67108864 x)) ∧ w = w' := by
  go_enter Try.func71, Try.ntmps71
  go_wp2_with (go_at_call 75; refine (rot_6 x _ h0 h1).mono ?_; rintro e w' ⟨rfl, rfl⟩)
  go_ret
  exact ⟨rfl, rfl⟩
theorem rightq_6 (x : Int) (w : World) (m : Nat) (h : 0 ≤ x ∧ x ≤ 4294967295) : Calls Try.prog 71 #[.int .u32 x, .int .i64 6] (w.drewN m) fun e w'' => e = .returned (.int .u32 (rot 64 67108864 x)) ∧ ∃ m', w'' = w.drewN m' :=
  (right_6 x _ h.1 h.2).mono fun _ _ ⟨he, hw⟩ => ⟨he, m, hw.symm⟩
set_option maxHeartbeats 800000 in
theorem turn_6 (x : Int) (w : World) (h0 : 0 ≤ x) (h1 : x ≤ 4294967295) : Calls Try.prog 69 #[.int .u32 x, .int .u64 6] w fun e w' => e = .returned (.int .u32 (rot 64 67108864 x)) ∧ w = w' := by
  go_enter Try.func69, Try.ntmps69
  go_wp2
  go_ret
  exact ⟨congrArg (fun z => Ending.returned (Value.int .u32 z)) (or_comm _ _), rfl⟩

set_option maxHeartbeats 800000 in
theorem rot_7 (x : Int) (w : World) (h0 : 0 ≤ x) (h1 : x ≤ 4294967295) : Calls Try.prog 75 #[.int .u32 x, .int .i64 (-7)] w fun e w' => e = .returned (.int .u32 (rot 128 33554432 x)) ∧ w = w' := by
  have e : bits BinOp.and IntKind.u64 (IntKind.u64.wrap (-7)) 31 = 25 := by decide +kernel
  go_enter Try.func75, Try.ntmps75
  go_wp2
  go_ret
  exact ⟨rfl, rfl⟩
set_option maxHeartbeats 800000 in
theorem right_7 (x : Int) (w : World) (h0 : 0 ≤ x) (h1 : x ≤ 4294967295) : Calls Try.prog 71 #[.int .u32 x, .int .i64 7] w fun e w' => e = .returned (.int .u32 (rot 128 33554432 x)) ∧ w = w' := by
  go_enter Try.func71, Try.ntmps71
  go_wp2_with (go_at_call 75; refine (rot_7 x _ h0 h1).mono ?_; rintro e w' ⟨rfl, rfl⟩)
  go_ret
  exact ⟨rfl, rfl⟩
theorem rightq_7 (x : Int) (w : World) (m : Nat) (h : 0 ≤ x ∧ x ≤ 4294967295) : Calls Try.prog 71 #[.int .u32 x, .int .i64 7] (w.drewN m) fun e w'' => e = .returned (.int .u32 (rot 128 33554432 x)) ∧ ∃ m', w'' = w.drewN m' :=
  (right_7 x _ h.1 h.2).mono fun _ _ ⟨he, hw⟩ => ⟨he, m, hw.symm⟩
set_option maxHeartbeats 800000 in
theorem turn_7 (x : Int) (w : World) (h0 : 0 ≤ x) (h1 : x ≤ 4294967295) : Calls Try.prog 69 #[.int .u32 x, .int .u64 7] w fun e w' => e = .returned (.int .u32 (rot 128 33554432 x)) ∧ w = w' := by
  go_enter Try.func69, Try.ntmps69
  go_wp2
  go_ret
  exact ⟨congrArg (fun z => Ending.returned (Value.int .u32 z)) (or_comm _ _), rfl⟩

set_option maxHeartbeats 800000 in
theorem rot_11 (x : Int) (w : World) (h0 : 0 ≤ x) (h1 : x ≤ 4294967295) : Calls Try.prog 75 #[.int .u32 x, .int .i64 (-11)] w fun e w' => e = .returned (.int .u32 (rot 2048 2097152 x)) ∧ w = w' := by
  have e : bits BinOp.and IntKind.u64 (IntKind.u64.wrap (-11)) 31 = 21 := by decide +kernel
  go_enter Try.func75, Try.ntmps75
  go_wp2
  go_ret
  exact ⟨rfl, rfl⟩
set_option maxHeartbeats 800000 in
theorem right_11 (x : Int) (w : World) (h0 : 0 ≤ x) (h1 : x ≤ 4294967295) : Calls Try.prog 71 #[.int .u32 x, .int .i64 11] w fun e w' => e = .returned (.int .u32 (rot 2048 2097152 x)) ∧ w = w' := by
  go_enter Try.func71, Try.ntmps71
  go_wp2_with (go_at_call 75; refine (rot_11 x _ h0 h1).mono ?_; rintro e w' ⟨rfl, rfl⟩)
  go_ret
  exact ⟨rfl, rfl⟩
theorem rightq_11 (x : Int) (w : World) (m : Nat) (h : 0 ≤ x ∧ x ≤ 4294967295) : Calls Try.prog 71 #[.int .u32 x, .int .i64 11] (w.drewN m) fun e w'' => e = .returned (.int .u32 (rot 2048 2097152 x)) ∧ ∃ m', w'' = w.drewN m' :=
  (right_11 x _ h.1 h.2).mono fun _ _ ⟨he, hw⟩ => ⟨he, m, hw.symm⟩
set_option maxHeartbeats 800000 in
theorem turn_11 (x : Int) (w : World) (h0 : 0 ≤ x) (h1 : x ≤ 4294967295) : Calls Try.prog 69 #[.int .u32 x, .int .u64 11] w fun e w' => e = .returned (.int .u32 (rot 2048 2097152 x)) ∧ w = w' := by
  go_enter Try.func69, Try.ntmps69
  go_wp2
  go_ret
  exact ⟨congrArg (fun z => Ending.returned (Value.int .u32 z)) (or_comm _ _), rfl⟩

set_option maxHeartbeats 800000 in
theorem rot_13 (x : Int) (w : World) (h0 : 0 ≤ x) (h1 : x ≤ 4294967295) : Calls Try.prog 75 #[.int .u32 x, .int .i64 (-13)] w fun e w' => e = .returned (.int .u32 (rot 8192 524288 x)) ∧ w = w' := by
  have e : bits BinOp.and IntKind.u64 (IntKind.u64.wrap (-13)) 31 = 19 := by decide +kernel
  go_enter Try.func75, Try.ntmps75
  go_wp2
  go_ret
  exact ⟨rfl, rfl⟩
set_option maxHeartbeats 800000 in
theorem right_13 (x : Int) (w : World) (h0 : 0 ≤ x) (h1 : x ≤ 4294967295) : Calls Try.prog 71 #[.int .u32 x, .int .i64 13] w fun e w' => e = .returned (.int .u32 (rot 8192 524288 x)) ∧ w = w' := by
  go_enter Try.func71, Try.ntmps71
  go_wp2_with (go_at_call 75; refine (rot_13 x _ h0 h1).mono ?_; rintro e w' ⟨rfl, rfl⟩)
  go_ret
  exact ⟨rfl, rfl⟩
theorem rightq_13 (x : Int) (w : World) (m : Nat) (h : 0 ≤ x ∧ x ≤ 4294967295) : Calls Try.prog 71 #[.int .u32 x, .int .i64 13] (w.drewN m) fun e w'' => e = .returned (.int .u32 (rot 8192 524288 x)) ∧ ∃ m', w'' = w.drewN m' :=
  (right_13 x _ h.1 h.2).mono fun _ _ ⟨he, hw⟩ => ⟨he, m, hw.symm⟩
set_option maxHeartbeats 800000 in
theorem turn_13 (x : Int) (w : World) (h0 : 0 ≤ x) (h1 : x ≤ 4294967295) : Calls Try.prog 69 #[.int .u32 x, .int .u64 13] w fun e w' => e = .returned (.int .u32 (rot 8192 524288 x)) ∧ w = w' := by
  go_enter Try.func69, Try.ntmps69
  go_wp2
  go_ret
  exact ⟨congrArg (fun z => Ending.returned (Value.int .u32 z)) (or_comm _ _), rfl⟩

set_option maxHeartbeats 800000 in
theorem rot_17 (x : Int) (w : World) (h0 : 0 ≤ x) (h1 : x ≤ 4294967295) : Calls Try.prog 75 #[.int .u32 x, .int .i64 (-17)] w fun e w' => e = .returned (.int .u32 (rot 131072 32768 x)) ∧ w = w' := by
  have e : bits BinOp.and IntKind.u64 (IntKind.u64.wrap (-17)) 31 = 15 := by decide +kernel
  go_enter Try.func75, Try.ntmps75
  go_wp2
  go_ret
  exact ⟨rfl, rfl⟩
set_option maxHeartbeats 800000 in
theorem right_17 (x : Int) (w : World) (h0 : 0 ≤ x) (h1 : x ≤ 4294967295) : Calls Try.prog 71 #[.int .u32 x, .int .i64 17] w fun e w' => e = .returned (.int .u32 (rot 131072 32768 x)) ∧ w = w' := by
  go_enter Try.func71, Try.ntmps71
  go_wp2_with (go_at_call 75; refine (rot_17 x _ h0 h1).mono ?_; rintro e w' ⟨rfl, rfl⟩)
  go_ret
  exact ⟨rfl, rfl⟩
theorem rightq_17 (x : Int) (w : World) (m : Nat) (h : 0 ≤ x ∧ x ≤ 4294967295) : Calls Try.prog 71 #[.int .u32 x, .int .i64 17] (w.drewN m) fun e w'' => e = .returned (.int .u32 (rot 131072 32768 x)) ∧ ∃ m', w'' = w.drewN m' :=
  (right_17 x _ h.1 h.2).mono fun _ _ ⟨he, hw⟩ => ⟨he, m, hw.symm⟩
set_option maxHeartbeats 800000 in
theorem turn_17 (x : Int) (w : World) (h0 : 0 ≤ x) (h1 : x ≤ 4294967295) : Calls Try.prog 69 #[.int .u32 x, .int .u64 17] w fun e w' => e = .returned (.int .u32 (rot 131072 32768 x)) ∧ w = w' := by
  go_enter Try.func69, Try.ntmps69
  go_wp2
  go_ret
  exact ⟨congrArg (fun z => Ending.returned (Value.int .u32 z)) (or_comm _ _), rfl⟩

set_option maxHeartbeats 800000 in
theorem rot_18 (x : Int) (w : World) (h0 : 0 ≤ x) (h1 : x ≤ 4294967295) : Calls Try.prog 75 #[.int .u32 x, .int .i64 (-18)] w fun e w' => e = .returned (.int .u32 (rot 262144 16384 x)) ∧ w = w' := by
  have e : bits BinOp.and IntKind.u64 (IntKind.u64.wrap (-18)) 31 = 14 := by decide +kernel
  go_enter Try.func75, Try.ntmps75
  go_wp2
  go_ret
  exact ⟨rfl, rfl⟩
set_option maxHeartbeats 800000 in
theorem right_18 (x : Int) (w : World) (h0 : 0 ≤ x) (h1 : x ≤ 4294967295) : Calls Try.prog 71 #[.int .u32 x, .int .i64 18] w fun e w' => e = .returned (.int .u32 (rot 262144 16384 x)) ∧ w = w' := by
  go_enter Try.func71, Try.ntmps71
  go_wp2_with (go_at_call 75; refine (rot_18 x _ h0 h1).mono ?_; rintro e w' ⟨rfl, rfl⟩)
  go_ret
  exact ⟨rfl, rfl⟩
theorem rightq_18 (x : Int) (w : World) (m : Nat) (h : 0 ≤ x ∧ x ≤ 4294967295) : Calls Try.prog 71 #[.int .u32 x, .int .i64 18] (w.drewN m) fun e w'' => e = .returned (.int .u32 (rot 262144 16384 x)) ∧ ∃ m', w'' = w.drewN m' :=
  (right_18 x _ h.1 h.2).mono fun _ _ ⟨he, hw⟩ => ⟨he, m, hw.symm⟩
set_option maxHeartbeats 800000 in
theorem turn_18 (x : Int) (w : World) (h0 : 0 ≤ x) (h1 : x ≤ 4294967295) : Calls Try.prog 69 #[.int .u32 x, .int .u64 18] w fun e w' => e = .returned (.int .u32 (rot 262144 16384 x)) ∧ w = w' := by
  go_enter Try.func69, Try.ntmps69
  go_wp2
  go_ret
  exact ⟨congrArg (fun z => Ending.returned (Value.int .u32 z)) (or_comm _ _), rfl⟩

set_option maxHeartbeats 800000 in
theorem rot_19 (x : Int) (w : World) (h0 : 0 ≤ x) (h1 : x ≤ 4294967295) : Calls Try.prog 75 #[.int .u32 x, .int .i64 (-19)] w fun e w' => e = .returned (.int .u32 (rot 524288 8192 x)) ∧ w = w' := by
  have e : bits BinOp.and IntKind.u64 (IntKind.u64.wrap (-19)) 31 = 13 := by decide +kernel
  go_enter Try.func75, Try.ntmps75
  go_wp2
  go_ret
  exact ⟨rfl, rfl⟩
set_option maxHeartbeats 800000 in
theorem right_19 (x : Int) (w : World) (h0 : 0 ≤ x) (h1 : x ≤ 4294967295) : Calls Try.prog 71 #[.int .u32 x, .int .i64 19] w fun e w' => e = .returned (.int .u32 (rot 524288 8192 x)) ∧ w = w' := by
  go_enter Try.func71, Try.ntmps71
  go_wp2_with (go_at_call 75; refine (rot_19 x _ h0 h1).mono ?_; rintro e w' ⟨rfl, rfl⟩)
  go_ret
  exact ⟨rfl, rfl⟩
theorem rightq_19 (x : Int) (w : World) (m : Nat) (h : 0 ≤ x ∧ x ≤ 4294967295) : Calls Try.prog 71 #[.int .u32 x, .int .i64 19] (w.drewN m) fun e w'' => e = .returned (.int .u32 (rot 524288 8192 x)) ∧ ∃ m', w'' = w.drewN m' :=
  (right_19 x _ h.1 h.2).mono fun _ _ ⟨he, hw⟩ => ⟨he, m, hw.symm⟩
set_option maxHeartbeats 800000 in
theorem turn_19 (x : Int) (w : World) (h0 : 0 ≤ x) (h1 : x ≤ 4294967295) : Calls Try.prog 69 #[.int .u32 x, .int .u64 19] w fun e w' => e = .returned (.int .u32 (rot 524288 8192 x)) ∧ w = w' := by
  go_enter Try.func69, Try.ntmps69
  go_wp2
  go_ret
  exact ⟨congrArg (fun z => Ending.returned (Value.int .u32 z)) (or_comm _ _), rfl⟩

set_option maxHeartbeats 800000 in
theorem rot_22 (x : Int) (w : World) (h0 : 0 ≤ x) (h1 : x ≤ 4294967295) : Calls Try.prog 75 #[.int .u32 x, .int .i64 (-22)] w fun e w' => e = .returned (.int .u32 (rot 4194304 1024 x)) ∧ w = w' := by
  have e : bits BinOp.and IntKind.u64 (IntKind.u64.wrap (-22)) 31 = 10 := by decide +kernel
  go_enter Try.func75, Try.ntmps75
  go_wp2
  go_ret
  exact ⟨rfl, rfl⟩
set_option maxHeartbeats 800000 in
theorem right_22 (x : Int) (w : World) (h0 : 0 ≤ x) (h1 : x ≤ 4294967295) : Calls Try.prog 71 #[.int .u32 x, .int .i64 22] w fun e w' => e = .returned (.int .u32 (rot 4194304 1024 x)) ∧ w = w' := by
  go_enter Try.func71, Try.ntmps71
  go_wp2_with (go_at_call 75; refine (rot_22 x _ h0 h1).mono ?_; rintro e w' ⟨rfl, rfl⟩)
  go_ret
  exact ⟨rfl, rfl⟩
theorem rightq_22 (x : Int) (w : World) (m : Nat) (h : 0 ≤ x ∧ x ≤ 4294967295) : Calls Try.prog 71 #[.int .u32 x, .int .i64 22] (w.drewN m) fun e w'' => e = .returned (.int .u32 (rot 4194304 1024 x)) ∧ ∃ m', w'' = w.drewN m' :=
  (right_22 x _ h.1 h.2).mono fun _ _ ⟨he, hw⟩ => ⟨he, m, hw.symm⟩
set_option maxHeartbeats 800000 in
theorem turn_22 (x : Int) (w : World) (h0 : 0 ≤ x) (h1 : x ≤ 4294967295) : Calls Try.prog 69 #[.int .u32 x, .int .u64 22] w fun e w' => e = .returned (.int .u32 (rot 4194304 1024 x)) ∧ w = w' := by
  go_enter Try.func69, Try.ntmps69
  go_wp2
  go_ret
  exact ⟨congrArg (fun z => Ending.returned (Value.int .u32 z)) (or_comm _ _), rfl⟩

set_option maxHeartbeats 800000 in
theorem rot_25 (x : Int) (w : World) (h0 : 0 ≤ x) (h1 : x ≤ 4294967295) : Calls Try.prog 75 #[.int .u32 x, .int .i64 (-25)] w fun e w' => e = .returned (.int .u32 (rot 33554432 128 x)) ∧ w = w' := by
  have e : bits BinOp.and IntKind.u64 (IntKind.u64.wrap (-25)) 31 = 7 := by decide +kernel
  go_enter Try.func75, Try.ntmps75
  go_wp2
  go_ret
  exact ⟨rfl, rfl⟩
set_option maxHeartbeats 800000 in
theorem right_25 (x : Int) (w : World) (h0 : 0 ≤ x) (h1 : x ≤ 4294967295) : Calls Try.prog 71 #[.int .u32 x, .int .i64 25] w fun e w' => e = .returned (.int .u32 (rot 33554432 128 x)) ∧ w = w' := by
  go_enter Try.func71, Try.ntmps71
  go_wp2_with (go_at_call 75; refine (rot_25 x _ h0 h1).mono ?_; rintro e w' ⟨rfl, rfl⟩)
  go_ret
  exact ⟨rfl, rfl⟩
theorem rightq_25 (x : Int) (w : World) (m : Nat) (h : 0 ≤ x ∧ x ≤ 4294967295) : Calls Try.prog 71 #[.int .u32 x, .int .i64 25] (w.drewN m) fun e w'' => e = .returned (.int .u32 (rot 33554432 128 x)) ∧ ∃ m', w'' = w.drewN m' :=
  (right_25 x _ h.1 h.2).mono fun _ _ ⟨he, hw⟩ => ⟨he, m, hw.symm⟩
set_option maxHeartbeats 800000 in
theorem turn_25 (x : Int) (w : World) (h0 : 0 ≤ x) (h1 : x ≤ 4294967295) : Calls Try.prog 69 #[.int .u32 x, .int .u64 25] w fun e w' => e = .returned (.int .u32 (rot 33554432 128 x)) ∧ w = w' := by
  go_enter Try.func69, Try.ntmps69
  go_wp2
  go_ret
  exact ⟨congrArg (fun z => Ending.returned (Value.int .u32 z)) (or_comm _ _), rfl⟩
end Go.Proofs.Ytbebkogkeepfoaa.Sha
