import Derived.Test.YtbebkogkeepfoaaShaOf
import Derived.Deep.RegionLaw
/- sha: Hex walked. -/
namespace Go.Proofs.Ytbebkogkeepfoaa.Sha
set_option linter.unusedVariables false
open Go.RowKit Go.Proofs.Ytbebkogkeepfoaa.Base Go.Proofs.Ytbebkogkeepfoaa.ShaPlain Go.Proofs.Ytbebkogkeepfoaa.Aid Go.Proofs.YtbebkogkeepfoaaW.PrintWords Go.Proofs.YtbebkogkeepfoaaW.PrintLast Go.Proofs.YtbebkogkeepfoaaW.PrintMore
theorem run_index_byte (cs : Array Value) (i : Nat) (v : Value) (hi : i < 32) (hv : cs[i]? = some v) (w : World) : (Instr.index 24 (.agg cs) (.int .i64 (i : Int))).run Try.prog w = .ok v w := by
  have h1 : (sizeOf 5).run Try.prog w = .ok 1 w := by kernel_rfl
  simp [Instr.index, run_underlying Try.underlying24, asIntOf, h1, go_sem, hi, hv]
abbrev digits : ByteArray := ⟨#[48, 49, 50, 51, 52, 53, 54, 55, 56, 57, 97, 98, 99, 100, 101, 102]⟩
/-- A digit. -/
def dig (n : Int) : Int := if n < 10 then 48 + n else 87 + n
theorem run_index_dig (n : Int) (h0 : 0 ≤ n) (h1 : n ≤ 15) (w : World) : (Instr.index 9 (.string ⟨#[48, 49, 50, 51, 52, 53, 54, 55, 56, 57, 97, 98, 99, 100, 101, 102]⟩) (.int .u8 n)).run Try.prog w = .ok (.int .u8 (dig n)) w := by
  have : n = 0 ∨ n = 1 ∨ n = 2 ∨ n = 3 ∨ n = 4 ∨ n = 5 ∨ n = 6 ∨ n = 7 ∨ n = 8 ∨ n = 9 ∨ n = 10 ∨ n = 11 ∨ n = 12 ∨ n = 13 ∨ n = 14 ∨ n = 15 := by omega
  rcases this with rfl | rfl | rfl | rfl | rfl | rfl | rfl | rfl | rfl | rfl | rfl | rfl | rfl | rfl | rfl | rfl
  all_goals (clear h0 h1; rw [run_index_string (h := Try.underlying9)]; rfl)
def hexB (d : List Int) : List Int := d.flatMap fun x => [dig (x / 16), dig (x % 16)]
theorem hexB_snoc (d : List Int) (x : Int) : hexB (d ++ [x]) = hexB d ++ [dig (x / 16), dig (x % 16)] := by simp [hexB]
theorem hexB_len (d : List Int) : (hexB d).length = 2 * d.length := by
  induction d with
  | nil => rfl
  | cons x d ih => simp only [hexB, List.flatMap_cons, List.length_append, List.length_cons, List.length_nil] at ih ⊢; omega
set_option maxHeartbeats 4000000 in
set_option maxRecDepth 100000 in
theorem hex_c (d : List Int) (hd : d.length = 32) (hu : ∀ x ∈ d, 0 ≤ x ∧ x ≤ 255) (w : World) :
    Calls Try.prog 16 #[.agg (nums .u8 d).toArray] w fun e w' => e = .returned (.string (strOfNums (hexB d))) ∧ Below w.heap.size w w' := by
  obtain ⟨C, hC⟩ : ∃ C, (nums .u8 d).toArray = C := ⟨_, rfl⟩
  have hcs : C.size = 32 := by rw [← hC]; simp [nums, hd]
  have hget : ∀ k, k < 32 → C[k]? = some (.int .u8 (d.getD k 0)) := fun k hk => by rw [← hC]; simp [nums, List.getElem?_eq_getElem (show k < d.length by omega), List.getD_eq_getElem?_getD]
  have HG := Aside0.mk hget
  have HD := Aside0.mk hd
  have HU := Aside0.mk hu
  have HZS := Aside0.mk (show (Try.prog.info? 24).map (·.size) = some C.size by rw [hcs]; exact info_32)
  rw [hC]
  clear hC hcs hget hd hu
  go_enter Try.func16, Try.ntmps16
  go_wp2_with ((with_reducible refine gate_dst (N := 6) rfl ?_); refine wpList_load_row rfl 24 (.tmp 1) rfl w.heap.size rfl 24 C (0, 0) _ (by exact blk_new _ _) Try.underlying24 rfl HZS.out ?_)
  go_loopw [3, 5, 7] (fun v _ i wx => ∃ k : Nat, k ≤ 32 ∧ i = .int .i64 k ∧ Ob wx w.heap.size v (hexB (d.take k)) ∧ Below w.heap.size w wx) (fun _ _ i _ => 32 - (intOf i).toNat)
  case atStart => exact ⟨0, by omega, rfl, Kd.R_nil _ _ _ _ _, below_alloc (Below.refl _ _) _⟩
  case round =>
    obtain ⟨k, hk, rfl, hown, hbl⟩ := hrel
    have HO := Aside0.mk hown
    have HB := Aside0.mk hbl
    by_cases hlt : k < 32
    · obtain ⟨x, hx⟩ : ∃ x, d.getD k 0 = x := ⟨_, rfl⟩
      have hg := HG.out k hlt
      rw [hx] at hg
      have hix := fun W => run_index_byte C k _ hlt hg W
      have HX := Aside0.mk hx
      have hxr : 0 ≤ x ∧ x ≤ 255 := by
        rw [← hx, List.getD_eq_getElem?_getD, List.getElem?_eq_getElem (show k < d.length by have := HD.out; omega)]
        exact HU.out _ (List.getElem_mem _)
      have x0 := hxr.1
      have x1 := hxr.2
      have i1 := fun W => run_index_dig (x / 16) (by omega) (by omega) W
      have i2 := fun W => run_index_dig (x % 16) (by omega) (by omega) W
      have e15 : bits .and .u8 x 15 = x % 16 := u8_and15 x x0 (by omega)
      have HL := Aside0.mk (show (hexB (d.take k)).length ≤ 64 by rw [hexB_len, List.length_take]; omega)
      have HH := Aside0.mk (show hexB (d.take (k + 1)) = hexB (d.take k) ++ [dig (x / 16), dig (x % 16)] by
        have hlt' : k < d.length := by have := HD.out; omega
        rw [Aid.take_snoc d k hlt', hexB_snoc, ← hx, List.getD_eq_getElem?_getD, List.getElem?_eq_getElem hlt']; rfl)
      clear hown hbl hg hx hxr
      obtain ⟨ya, hya⟩ : ∃ y, dig (x / 16) = y := ⟨_, rfl⟩
      obtain ⟨yb, hyb⟩ : ∃ y, dig (x % 16) = y := ⟨_, rfl⟩
      rw [hyb] at i2
      rw [hya] at i1
      rw [hya, hyb] at HH
      clear hya hyb
      go_wp2
      have HO2 := Aside0.mk (show Ob wr.drew w.heap.size u3 (hexB (d.take k)) from Kd.R_drew HO.out)
      have HB2 := Aside0.mk (below_drew1 HB.out)
      go_region_law (refine Kd.R_append_rows_step (Kd.int .u8) (w0 := w) w.heap.size rfl (.tmp 10) (.tmp 17) 22 5 (.int .u8 0) 1 rfl Try.underlying22 info_u8 rfl (by decide) (by omega) u3 (hexB (d.take k)) [ya, yb] _ _ _ (fun _ => True) (fun _ => False) rfl rfl (Kd.R_below HO2.out (below_alloc (Below.refl _ _) _)) (const_reads wr.drew [ya, yb] _ _ rfl (by simp)) (fun _ _ h => h) (fun _ h => h.elim) (fun _ _ => trivial) (below_alloc HB2.out _) (below_alloc HB2.out _).size (by have := HL.out; omega) ?_; intro v4 w4 ho hb hg hat; rw [← HH.out] at ho; have HO4 := Aside0.mk ho; have HB4 := Aside0.mk hb; clear ho hb hg hat)
      all_goals
        go_wp2
        go_roundw
        case rel => exact ⟨k + 1, by omega, by go_num, HO4.out, HB4.out⟩
        case measure => simp [intOf]; omega
    · have HKE := Aside0.mk (show d.take k = d from List.take_of_length_le (by have := HD.out; omega))
      have hcv := own_string (P := Try.prog) Try.underlying22 Try.underlying5 Try.underlying9 (Kd.own_of_R hown)
      rw [HKE.out] at hcv
      have hge : 32 ≤ k := by omega
      clear hown hbl hlt hk
      go_wp2
      go_ret
      exact ⟨rfl, HB.out⟩
end Go.Proofs.Ytbebkogkeepfoaa.Sha
