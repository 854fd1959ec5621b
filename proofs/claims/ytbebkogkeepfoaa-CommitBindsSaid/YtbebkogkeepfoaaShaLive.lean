import Derived.Test.YtbebkogkeepfoaaShaEval
/- The example of layer 2. -/
namespace Go.Proofs.Ytbebkogkeepfoaa.Sha
set_option linter.unusedVariables false
open Go.RowKit Go.Proofs.Ytbebkogkeepfoaa.Base Go.Proofs.Ytbebkogkeepfoaa.ShaPlain Go.Proofs.Ytbebkogkeepfoaa.Aid Go.Proofs.YtbebkogkeepfoaaW.PrintWords Go.Proofs.YtbebkogkeepfoaaW.PrintLast Go.Proofs.YtbebkogkeepfoaaW.PrintMore
/-- Rows that were written out in memory. -/
theorem lit_rr {w : World} {g T : Nat} {cells : Array Value} (hg : w.heap[g]? = some (.cells cells T (0, 0))) (xs : List (List Int)) (hm : xs.length ≤ 9223372036854775807)
    (hi : ∀ (j : Nat) (l : List Int), xs[j]? = some l → ∃ A c, cells[j]? = some (Value.slice A l.length c) ∧ l.length ≤ c ∧ Rb w A l) : Rr w (some ⟨g, 0, none⟩) xs := by
  refine ⟨rfl, hm, fun _ => ⟨_, rfl, fun j l hj => ?_⟩⟩
  obtain ⟨A, c, h1, h2, h3⟩ := hi j l hj
  refine ⟨[.slice A l.length c], rfl, ⟨A, c, rfl, h2, h3⟩, fun i u hu => ?_⟩
  have hi0 : i = 0 := by
    have := (List.getElem?_eq_some_iff.1 hu).1
    simp at this
    exact this
  subst hi0
  rw [show j * (Kd.slice 5 (Kd.int .u8)).sz + 0 = j from by show j * 1 + 0 = j; omega, add_plain, blk_cell hg, h1]
  exact hu
theorem one_row (w : World) (A : Option Addr) (c T : Nat) (xs : List Int) (hr : Rb w A xs) (hc : xs.length ≤ c) : Rr (w.alloc (.cells #[.slice A xs.length c] T)) (some ⟨w.heap.size, 0, none⟩) [xs] := by
  refine lit_rr (blk_new w _) [xs] (by simp) fun j l hj => ?_
  match j, hj with
  | 0, hj => cases hj; exact ⟨A, c, rfl, hc, Kd.C_alloc hr _⟩
/-- A constant's bytes as the one part. -/
theorem const_row (w : World) (xs : List Int) (C : Array Value) (fr : Nat × Nat) (hC : C = (nums .u8 xs).toArray) (hm : xs.length ≤ 9223372036854775807) (n : Nat) (hn : xs.length = n) (T : Nat) :
    Rr ((w.alloc (.cells C 5 fr)).alloc (.cells #[.slice (some ⟨w.heap.size, 0, none⟩) n n] T)) (some ⟨w.heap.size + 1, 0, none⟩) [xs] := by
  subst hn
  have h := one_row (w.alloc (.cells C 5 fr)) (some ⟨w.heap.size, 0, none⟩) xs.length T xs (const_reads w xs C fr hC hm) (Nat.le_refl _)
  rwa [show (w.alloc (.cells C 5 fr)).heap.size = w.heap.size + 1 from by simp] at h
theorem nil_rr (w : World) : Rr w none [] := ⟨rfl, by simp, fun h => by simp at h⟩
theorem of_nil (w : World) : Calls Try.prog 14 #[.slice none 0 0] w fun e w' => e = .returned (.agg (nums .u8 (shaB [])).toArray) ∧ Below w.heap.size w w' :=
  of_c none 0 [] w (nil_rr w) (by simp) (by simp) (by simp) (by simp)
set_option maxHeartbeats 2000000 in
set_option maxRecDepth 100000 in
theorem live_c (w : World) : Calls Try.prog 13 #[] w fun e w' => e = .returned (.bool true) ∧ Below w.heap.size w w' := by
  have kc := fun (w : World) (C : Array Value) (n c : Nat) => Lib.run_convert_bytes_const (P := Try.prog) w 22 5 C n c Try.underlying22 Try.underlying5
  go_enter Try.func13, Try.ntmps13
  go_wp2_with (fail)
  refine (of_nil _).mono ?_
  rintro e w1 ⟨rfl, hb⟩
  have HB := Aside0.mk hb
  clear hb
  go_wp2_with (fail)
  refine (hex_c (shaB []) (shaB_len _) (shaB_u8 _) _).mono ?_
  rintro e w2 ⟨rfl, hb⟩
  have n1_ := Aside0.mk (below_step HB.out hb); clear HB; have HB := n1_; clear n1_
  clear hb
  rw [str_nil]
  go_wp2_with (fail)
  refine (of_c (some ⟨w2.heap.size + 1, 0, none⟩) 1 [[97, 98, 99]] _ (const_row w2 [97, 98, 99] _ (3, 4) rfl (by simp) 3 rfl 22) (by simp) (by simp) (by simp) (by simp)).mono ?_
  rintro e w3 ⟨rfl, hb0⟩
  have hb := below_step (below_alloc (below_alloc (Below.refl w2.heap.size w2) _) _) hb0
  clear hb0
  have n1_ := Aside0.mk (below_step HB.out hb); clear HB; have HB := n1_; clear n1_
  clear hb
  rw [show [[(97 : Int), 98, 99]].flatten = [97, 98, 99] from rfl]
  go_wp2_with (fail)
  refine (hex_c (shaB [97, 98, 99]) (shaB_len _) (shaB_u8 _) _).mono ?_
  rintro e w4 ⟨rfl, hb⟩
  have n1_ := Aside0.mk (below_step HB.out hb); clear HB; have HB := n1_; clear n1_
  clear hb
  rw [str_abc]
  go_wp2_with (fail)
  go_ret
  exact ⟨rfl, HB.out⟩
end Go.Proofs.Ytbebkogkeepfoaa.Sha
