import Derived.Test.YtbebkogkeepfoaaShaOf
/- Words turned to the right, as regions that draw ask it. -/
namespace Go.Proofs.Ytbebkogkeepfoaa.Sha
set_option linter.unusedVariables false
open Go.RowKit Go.Proofs.Ytbebkogkeepfoaa.Base Go.Proofs.Ytbebkogkeepfoaa.ShaPlain Go.Proofs.YtbebkogkeepfoaaW.PrintWords Go.Proofs.YtbebkogkeepfoaaW.PrintLast Go.Proofs.YtbebkogkeepfoaaW.PrintMore
theorem turnw_2 (x : Int) (w : World) (h : 0 ≤ x ∧ x ≤ 4294967295) : Calls Try.prog 69 #[.int .u32 x, .int .u64 2] w fun e w'' => e = .returned (.int .u32 (rot 4 1073741824 x)) ∧ w'' = w :=
  (turn_2 x _ h.1 h.2).mono fun _ _ ⟨he, hw⟩ => ⟨he, hw.symm⟩
theorem turnq_2 (x : Int) (w : World) (m : Nat) (h : 0 ≤ x ∧ x ≤ 4294967295) : Calls Try.prog 69 #[.int .u32 x, .int .u64 2] (w.drewN m) fun e w'' => e = .returned (.int .u32 (rot 4 1073741824 x)) ∧ ∃ m', w'' = w.drewN m' :=
  (turn_2 x _ h.1 h.2).mono fun _ _ ⟨he, hw⟩ => ⟨he, m, hw.symm⟩
theorem turnw_6 (x : Int) (w : World) (h : 0 ≤ x ∧ x ≤ 4294967295) : Calls Try.prog 69 #[.int .u32 x, .int .u64 6] w fun e w'' => e = .returned (.int .u32 (rot 64 67108864 x)) ∧ w'' = w :=
  (turn_6 x _ h.1 h.2).mono fun _ _ ⟨he, hw⟩ => ⟨he, hw.symm⟩
theorem turnq_6 (x : Int) (w : World) (m : Nat) (h : 0 ≤ x ∧ x ≤ 4294967295) : Calls Try.prog 69 #[.int .u32 x, .int .u64 6] (w.drewN m) fun e w'' => e = .returned (.int .u32 (rot 64 67108864 x)) ∧ ∃ m', w'' = w.drewN m' :=
  (turn_6 x _ h.1 h.2).mono fun _ _ ⟨he, hw⟩ => ⟨he, m, hw.symm⟩
theorem turnw_7 (x : Int) (w : World) (h : 0 ≤ x ∧ x ≤ 4294967295) : Calls Try.prog 69 #[.int .u32 x, .int .u64 7] w fun e w'' => e = .returned (.int .u32 (rot 128 33554432 x)) ∧ w'' = w :=
  (turn_7 x _ h.1 h.2).mono fun _ _ ⟨he, hw⟩ => ⟨he, hw.symm⟩
theorem turnq_7 (x : Int) (w : World) (m : Nat) (h : 0 ≤ x ∧ x ≤ 4294967295) : Calls Try.prog 69 #[.int .u32 x, .int .u64 7] (w.drewN m) fun e w'' => e = .returned (.int .u32 (rot 128 33554432 x)) ∧ ∃ m', w'' = w.drewN m' :=
  (turn_7 x _ h.1 h.2).mono fun _ _ ⟨he, hw⟩ => ⟨he, m, hw.symm⟩
theorem turnw_11 (x : Int) (w : World) (h : 0 ≤ x ∧ x ≤ 4294967295) : Calls Try.prog 69 #[.int .u32 x, .int .u64 11] w fun e w'' => e = .returned (.int .u32 (rot 2048 2097152 x)) ∧ w'' = w :=
  (turn_11 x _ h.1 h.2).mono fun _ _ ⟨he, hw⟩ => ⟨he, hw.symm⟩
theorem turnq_11 (x : Int) (w : World) (m : Nat) (h : 0 ≤ x ∧ x ≤ 4294967295) : Calls Try.prog 69 #[.int .u32 x, .int .u64 11] (w.drewN m) fun e w'' => e = .returned (.int .u32 (rot 2048 2097152 x)) ∧ ∃ m', w'' = w.drewN m' :=
  (turn_11 x _ h.1 h.2).mono fun _ _ ⟨he, hw⟩ => ⟨he, m, hw.symm⟩
theorem turnw_13 (x : Int) (w : World) (h : 0 ≤ x ∧ x ≤ 4294967295) : Calls Try.prog 69 #[.int .u32 x, .int .u64 13] w fun e w'' => e = .returned (.int .u32 (rot 8192 524288 x)) ∧ w'' = w :=
  (turn_13 x _ h.1 h.2).mono fun _ _ ⟨he, hw⟩ => ⟨he, hw.symm⟩
theorem turnq_13 (x : Int) (w : World) (m : Nat) (h : 0 ≤ x ∧ x ≤ 4294967295) : Calls Try.prog 69 #[.int .u32 x, .int .u64 13] (w.drewN m) fun e w'' => e = .returned (.int .u32 (rot 8192 524288 x)) ∧ ∃ m', w'' = w.drewN m' :=
  (turn_13 x _ h.1 h.2).mono fun _ _ ⟨he, hw⟩ => ⟨he, m, hw.symm⟩
theorem turnw_17 (x : Int) (w : World) (h : 0 ≤ x ∧ x ≤ 4294967295) : Calls Try.prog 69 #[.int .u32 x, .int .u64 17] w fun e w'' => e = .returned (.int .u32 (rot 131072 32768 x)) ∧ w'' = w :=
  (turn_17 x _ h.1 h.2).mono fun _ _ ⟨he, hw⟩ => ⟨he, hw.symm⟩
theorem turnq_17 (x : Int) (w : World) (m : Nat) (h : 0 ≤ x ∧ x ≤ 4294967295) : Calls Try.prog 69 #[.int .u32 x, .int .u64 17] (w.drewN m) fun e w'' => e = .returned (.int .u32 (rot 131072 32768 x)) ∧ ∃ m', w'' = w.drewN m' :=
  (turn_17 x _ h.1 h.2).mono fun _ _ ⟨he, hw⟩ => ⟨he, m, hw.symm⟩
theorem turnw_18 (x : Int) (w : World) (h : 0 ≤ x ∧ x ≤ 4294967295) : Calls Try.prog 69 #[.int .u32 x, .int .u64 18] w fun e w'' => e = .returned (.int .u32 (rot 262144 16384 x)) ∧ w'' = w :=
  (turn_18 x _ h.1 h.2).mono fun _ _ ⟨he, hw⟩ => ⟨he, hw.symm⟩
theorem turnq_18 (x : Int) (w : World) (m : Nat) (h : 0 ≤ x ∧ x ≤ 4294967295) : Calls Try.prog 69 #[.int .u32 x, .int .u64 18] (w.drewN m) fun e w'' => e = .returned (.int .u32 (rot 262144 16384 x)) ∧ ∃ m', w'' = w.drewN m' :=
  (turn_18 x _ h.1 h.2).mono fun _ _ ⟨he, hw⟩ => ⟨he, m, hw.symm⟩
theorem turnw_19 (x : Int) (w : World) (h : 0 ≤ x ∧ x ≤ 4294967295) : Calls Try.prog 69 #[.int .u32 x, .int .u64 19] w fun e w'' => e = .returned (.int .u32 (rot 524288 8192 x)) ∧ w'' = w :=
  (turn_19 x _ h.1 h.2).mono fun _ _ ⟨he, hw⟩ => ⟨he, hw.symm⟩
theorem turnq_19 (x : Int) (w : World) (m : Nat) (h : 0 ≤ x ∧ x ≤ 4294967295) : Calls Try.prog 69 #[.int .u32 x, .int .u64 19] (w.drewN m) fun e w'' => e = .returned (.int .u32 (rot 524288 8192 x)) ∧ ∃ m', w'' = w.drewN m' :=
  (turn_19 x _ h.1 h.2).mono fun _ _ ⟨he, hw⟩ => ⟨he, m, hw.symm⟩
theorem turnw_22 (x : Int) (w : World) (h : 0 ≤ x ∧ x ≤ 4294967295) : Calls Try.prog 69 #[.int .u32 x, .int .u64 22] w fun e w'' => e = .returned (.int .u32 (rot 4194304 1024 x)) ∧ w'' = w :=
  (turn_22 x _ h.1 h.2).mono fun _ _ ⟨he, hw⟩ => ⟨he, hw.symm⟩
theorem turnq_22 (x : Int) (w : World) (m : Nat) (h : 0 ≤ x ∧ x ≤ 4294967295) : Calls Try.prog 69 #[.int .u32 x, .int .u64 22] (w.drewN m) fun e w'' => e = .returned (.int .u32 (rot 4194304 1024 x)) ∧ ∃ m', w'' = w.drewN m' :=
  (turn_22 x _ h.1 h.2).mono fun _ _ ⟨he, hw⟩ => ⟨he, m, hw.symm⟩
theorem turnw_25 (x : Int) (w : World) (h : 0 ≤ x ∧ x ≤ 4294967295) : Calls Try.prog 69 #[.int .u32 x, .int .u64 25] w fun e w'' => e = .returned (.int .u32 (rot 33554432 128 x)) ∧ w'' = w :=
  (turn_25 x _ h.1 h.2).mono fun _ _ ⟨he, hw⟩ => ⟨he, hw.symm⟩
theorem turnq_25 (x : Int) (w : World) (m : Nat) (h : 0 ≤ x ∧ x ≤ 4294967295) : Calls Try.prog 69 #[.int .u32 x, .int .u64 25] (w.drewN m) fun e w'' => e = .returned (.int .u32 (rot 33554432 128 x)) ∧ ∃ m', w'' = w.drewN m' :=
  (turn_25 x _ h.1 h.2).mono fun _ _ ⟨he, hw⟩ => ⟨he, m, hw.symm⟩
end Go.Proofs.Ytbebkogkeepfoaa.Sha
