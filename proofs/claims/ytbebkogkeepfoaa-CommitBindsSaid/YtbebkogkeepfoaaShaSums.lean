import Derived.Test.YtbebkogkeepfoaaShaBlock
import Derived.Test.YtbebkogkeepfoaaShaEq
import Derived.Test.YtbebkogkeepfoaaShaFold
import Derived.Deep.RegionWith
import Derived.Test.YtbebkogkeepfoaaShaHex
import Derived.Deep.QuietTactic
import Derived.BigQuiet
import Derived.StillTactics
import Derived.Test.YtbebkogkeepfoaaShaParts
import Derived.Deep.RegionLaw
import Derived.Deep.RegionHeld3
import Derived.Deep.MidRow
/- The document's sum walked. -/
namespace Go.Proofs.Ytbebkogkeepfoaa.Sha
set_option linter.unusedVariables false
open Go.RowKit Go.Proofs.Ytbebkogkeepfoaa.Base Go.Proofs.Ytbebkogkeepfoaa.ShaPlain Go.Proofs.Ytbebkogkeepfoaa.Aid Go.Proofs.YtbebkogkeepfoaaW.PrintWords Go.Proofs.YtbebkogkeepfoaaW.PrintLast Go.Proofs.YtbebkogkeepfoaaW.PrintMore
abbrev Z32 : Array Value := (nums .u8 (List.replicate 32 0)).toArray
theorem snoc_list {L : List Int} {k : Nat} {x : Int} (hk : k < L.length) (hx : L.getD k 0 = x) : L.take k ++ [x] = L.take (k + 1) := by
  rw [Aid.take_snoc L k hk, ← hx, List.getD_eq_getElem?_getD, List.getElem?_eq_getElem hk]; rfl
def FInv (w : World) (L : List Int) (v : Value) (W : World) : Prop := Ob W w.heap.size v L ∧ Below w.heap.size w W ∧ W.heap[w.heap.size]? = some (.cells Z32 24 (0, 0))
def SOI (w : World) (M : List Int) (A : Option Addr) (p k : Nat) (W : World) : Prop := Rb W A M ∧ (∀ a, A = some a → 0 < M.length → a.block < p) ∧ Below w.heap.size w W ∧ W.heap[w.heap.size]? = some (.cells Z32 24 (0, 0)) ∧ Words W p 36 (blocks M k) ∧ w.heap.size < p
theorem keep_row (W : World) (p : Nat) (cs : Array Value) : KeepBut W (W.setRow p cs) p none := ⟨Nat.le_of_eq (size_setRow _ _ _).symm, fun i _ hne _ => setRow_other W p i cs hne⟩
theorem still_load_row {P : Program} {ops : Array Oper} {rest : List Oper} {o : Oper} {a : Act} {w : World} {Q : Act → Prop} (hgd : o.guard = none) (ty : TypeId) (x : Operand) (ho : o.op = .load ty x)
    (g : Nat) (hx : a.eval x = .pointer (some ⟨g, 0, none⟩)) (t : TypeId) (cs : Array Value) (fr : Nat × Nat) (d : TypeDesc) (hg : w.heap[g]? = some (.cells cs t fr))
    (hu : P.underlying ty = some d) (hd : (match d with | .struct _ | .array _ _ => true | _ => false) = true) (hi : (P.info? ty).map (·.size) = some cs.size)
    (h : wpStill P ops w Q rest (a.put o.dst (.agg cs))) : wpStill P ops w Q (o :: rest) a := by
  unfold wpStill
  rw [if_pos (by simp [Region.wanted, hgd])]
  unfold Oper.still execOp
  simp only [ho, hx, Instr.loadAt, Instr.sureAddr, Sem.run_bind, Sem.run_pure, Result.andThen_ok, run_loadVar_row w g t ty cs fr d hg hu hd hi, Oper.stillUpon]
  exact ⟨trivial, h⟩
theorem rb_part {w : World} {A : Option Addr} {b : List Int} (h : Rb w A b) (x n c : Nat) (hc : b.length ≤ c) (hx : x + n ≤ b.length) (hn : ¬ c = x) : Rb w (A.map (·.add x)) ((b.drop x).take n) := by
  have h1 := ((Kd.reads_of_C (d := (0 : Int)) h).drop_ x (by omega) hc).take_ n (by omega)
  rw [if_neg hn] at h1
  have h2 := Kd.C_of_reads (d := (0 : Int)) (h1 := fun _ => rfl) h1
  show Kd.C _ w _ ((b.drop x).take n).length _
  rw [show ((b.drop x).take n).length = n from by rw [List.length_take, List.length_drop]; omega]
  exact h2
theorem part_u8 {b : List Int} (h : ∀ x ∈ b, 0 ≤ x ∧ x ≤ 255) (x n i : Nat) : 0 ≤ ((b.drop x).take n).getD i 0 ∧ ((b.drop x).take n).getD i 0 ≤ 255 := by
  rw [List.getD_eq_getElem?_getD]
  cases hq : ((b.drop x).take n)[i]? with
  | none => exact ⟨by decide, by decide⟩
  | some y => exact h y (List.mem_of_mem_drop (List.mem_of_mem_take (List.mem_of_getElem? hq)))
theorem pad_u8 {t : List Int} (h : ∀ x ∈ t, 0 ≤ x ∧ x ≤ 255) (n : Nat) : ∀ x ∈ t ++ padB n, 0 ≤ x ∧ x ≤ 255 := by
  intro x hx
  rcases List.mem_append.1 hx with hx | hx
  · exact h x hx
  · simp only [padB, sizeB, List.mem_cons, List.mem_append, List.mem_map, List.mem_range] at hx
    rcases hx with rfl | hx | ⟨i, _, rfl⟩
    · omega
    · rw [List.eq_of_mem_replicate hx]; omega
    · omega
/-- The answer's bytes under way. -/
def RI (w : World) (p p8 : Nat) (s : List Int) (k : Nat) (W : World) : Prop := Words W p 36 s ∧ Below w.heap.size w W ∧ W.heap[w.heap.size]? = some (.cells Z32 24 (0, 0)) ∧ W.heap[p8]? = some (.cells (nums .u8 (outN s k)).toArray 24 (0, 0)) ∧ p < p8 ∧ w.heap.size < p
theorem RI.next {w W : World} {p p8 k : Nat} {s : List Int} (h : RI w p p8 s k W) {x : Int} (hx : x = s.getD (k / 4) 0 / 2 ^ (24 - 8 * (k % 4)) % 256) : RI w p p8 s (k + 1) (W.setCell ⟨p8, k, none⟩ (.int .u8 x)) := by
  subst hx
  obtain ⟨h1, h2, h3, h4, h5, h6⟩ := h
  have hk : ∀ i o, W.heap[i]? = some o → i ≠ p8 → (W.setCell ⟨p8, k, none⟩ (.int .u8 (s.getD (k / 4) 0 / 2 ^ (24 - 8 * (k % 4)) % 256))).heap[i]? = some o := fun i o ho hne => (Below.heap_setCell W ⟨p8, k, none⟩ _ i hne).trans ho
  refine ⟨hk _ _ h1 (Nat.ne_of_lt h5), below_set h2 (Nat.le_of_lt (Nat.lt_trans h6 h5)), hk _ _ h3 (Nat.ne_of_lt (Nat.lt_trans h6 h5)), ?_, h5, h6⟩
  have := blk_set h4 k (.int .u8 (s.getD (k / 4) 0 / 2 ^ (24 - 8 * (k % 4)) % 256))
  rw [nums_set] at this
  exact this
theorem below_drew_of {w w' : World} (h : Below w.drew.heap.size w.drew w') : Below w.heap.size w w' := below_step (below_drew1 (Below.refl _ _)) h
theorem SOI.next {w W W' : World} {M : List Int} {A : Option Addr} {p k : Nat} (h : SOI w M A p k W) (hb : Below W.heap.size W W') {D : Array Value} (hD : D = (nums .u32 (blocks M (k + 1))).toArray) : SOI w M A p (k + 1) (W'.setRow p D) := by
  subst hD
  obtain ⟨h1, h2, h3, h4, h5, h6⟩ := h
  have k1 := keep_row W' p (nums .u32 (blocks M (k + 1))).toArray
  refine ⟨reads_keep (Kd.C_below h1 hb) k1 (fun a ha h0 => Nat.ne_of_lt (h2 a ha h0)), h2, below_setRow (below_step h3 hb) (Nat.le_of_lt h6) _, row_other (blk_below h4 hb) (Nat.ne_of_lt h6), setRow_heap _ _ _ _ _ _ (blk_below h5 hb), h6⟩
set_option maxHeartbeats 8000000 in
set_option maxRecDepth 100000 in
theorem rof_c (A : Option Addr) (c : Nat) (t : List Int) (w : World) (hr : Rb w A t) (hc : t.length ≤ c) (hu : ∀ x ∈ t, 0 ≤ x ∧ x ≤ 255) (hl : t.length ≤ 1000000) :
    Calls Try.prog 15 #[.slice A t.length c] w fun e w' => e = .returned (sumV (shaB t)) ∧ Below w.heap.size w w' := by
  have HR := Aside0.mk hr
  have HU := Aside0.mk hu
  have HL := Aside0.mk hl
  have HZ := Aside0.mk (show (w.alloc (.cells Z32 24)).heap[w.heap.size]? = some (.cells Z32 24 (0, 0)) from blk_new _ _)
  have HB := Aside0.mk (below_alloc (Below.refl w.heap.size w) (.cells Z32 24))
  obtain ⟨n, hn⟩ : ∃ n, t.length = n := ⟨_, rfl⟩
  have HN := Aside0.mk hn
  have n0 : (0 : Int) ≤ (n : Int) := by omega
  have n1 : (n : Int) ≤ 1000000 := by omega
  have HRN := Aside0.mk (show Kd.C (Kd.int .u8) w A n t by rw [← hn]; exact hr)
  rw [hn] at hc ⊢
  clear hr hu hl hn
  go_enter Try.func15, Try.ntmps15
  go_wp2_with (first
    | ((with_reducible refine gate_dst (N := 10) rfl ?_); refine Kd.R_lit (Kd.int .u8) w.heap.size 5 ?hg (N := 10) ?hd (xs := ([] : List Int)) (inner := []) (ok := fun _ => True) (okp := fun _ => True) ?hr ?hp (fun _ hk => hk) trivial HB.out HB.out.size (by simp) ?_; (case hd => rfl); (case hg => rfl); (case hr => first | (go_simp; done) | (go_simp; rfl)); (case hp => exact (Reps.none _ _)); intro v0 w3 ho4 hb hg_ hnew_; have HO := Aside0.mk ho4; have n2_ := Aside0.mk hb; have n3_ := Aside0.mk (blk_grown HZ.out hg_ (by simp)); clear HB HZ; have HB := n2_; have HZ := n3_; clear n2_ n3_ hb ho4 hg_ hnew_)
    | ((with_reducible refine gate_builtin (b := .append) (xs := #[.tmp 10, .tmp 11]) rfl ?_); at_builtin; refine Kd.R_append_rows (Kd.int .u8) (w0 := w) w.heap.size rfl (.tmp 10) (.tmp 11) 22 5 (.int .u8 0) 1 rfl Try.underlying22 info_u8 rfl (by decide) (by omega) v0 [] t _ _ _ (fun _ => True) (fun _ => False) rfl rfl HO.out (Kd.C_below HRN.out HB.out) (fun _ _ h => h) (fun _ h => h.elim) (fun _ _ => trivial) HB.out HB.out.size (by have := HL.out; have := HN.out; simp; omega) ?_; intro v1 w5 ho hb hg hat; have n1_ := Aside0.mk (blk_grown HZ.out hg (Kd.R_ne HO.out HZ.out (by decide))); have n2_ := Aside0.mk ho; have n3_ := Aside0.mk hb; clear HZ HO HB; have HZ := n1_; have HO := n2_; have HB := n3_; clear n1_ n2_ n3_ ho hb hg hat)
    | ((with_reducible refine gate_dst (N := 14) rfl ?_); (try (refine gate_guard (by rfl) ?_; dsimp only)); refine lit_bytes (N := 14) ?hg ?hd [128] [.int .u8 (128)] rfl ?hr (by simp) ?_; (case hd => rfl); (case hg => rfl); (case hr => first | (go_simp; done) | (go_simp; rfl)); intro v w1 ho hb; have n1_ := Aside0.mk (Kd.R_below HO.out hb); have n2_ := Aside0.mk (below_step HB.out hb); have n3_ := Aside0.mk (blk_below HZ.out hb); clear HO HB HZ; have HO := n1_; have HB := n2_; have HZ := n3_; clear n1_ n2_ n3_ hb; obtain ⟨Aq, cq, rfl, hl_, hr_⟩ := Ob.reads ho; have HRq := Aside0.mk hr_; have HLq := Aside0.mk hl_; clear ho hl_ hr_)
    | ((with_reducible refine gate_builtin (b := .append) (xs := #[.tmp 13, .tmp 14]) rfl ?_); at_builtin; refine Kd.R_append_rows (Kd.int .u8) (w0 := w) w.heap.size rfl (.tmp 13) (.tmp 14) 22 5 (.int .u8 0) 1 rfl Try.underlying22 info_u8 rfl (by decide) (by omega) v1 t [128] _ _ _ (fun _ => True) (fun _ => False) rfl rfl HO.out HRq.out (fun _ _ h => h) (fun _ h => h.elim) (fun _ _ => trivial) HB.out HB.out.size (by have := HL.out; simp; omega) ?_; intro v2 w5 ho hb hg hat; have n1_ := Aside0.mk (blk_grown HZ.out hg (Kd.R_ne HO.out HZ.out (by decide))); have n2_ := Aside0.mk ho; have n3_ := Aside0.mk hb; clear HZ HO HB; have HZ := n1_; have HO := n2_; have HB := n3_; clear n1_ n2_ n3_ ho hb hg hat))
  obtain ⟨z, hz⟩ : ∃ z, (119 - n % 64) % 64 = z := ⟨_, rfl⟩
  have HZZ := Aside0.mk hz
  clear hz
  have H0 := Aside0.mk (show FInv w (t ++ [128] ++ List.replicate (z - z) 0) v2 w5 by rw [Nat.sub_self]; simp only [List.replicate_zero, List.append_nil]; exact ⟨HO.out, HB.out, HZ.out⟩)
  clear HO HB HZ
  go_loopg [3] z (fun gk v wx => gk ≤ z ∧ FInv w (t ++ [128] ++ List.replicate (z - gk) 0) v wx)
  case atStart => exact ⟨Nat.le_refl _, H0.out⟩
  case round =>
    clear H0
    obtain ⟨hgk, hinv⟩ := hrel
    obtain ⟨L, hLe⟩ : ∃ L, t ++ [128] ++ List.replicate (z - gk) 0 = L := ⟨_, rfl⟩
    have HLE := Aside0.mk hLe
    have hlen : L.length = n + 1 + (z - gk) := by rw [← hLe]; simp only [List.length_append, List.length_replicate, List.length_cons, List.length_nil, HN.out]
    rw [hLe] at hinv
    have HO := Aside0.mk hinv.1
    have HB := Aside0.mk hinv.2.1
    have HZ := Aside0.mk hinv.2.2
    obtain ⟨A3, c3, rfl, hc3, hr3⟩ := Ob.reads hinv.1
    obtain ⟨m, hm⟩ : ∃ m, L.length = m := ⟨_, rfl⟩
    have HM := Aside0.mk hm
    rw [hm] at HO ⊢
    obtain ⟨qq, hqq⟩ : ∃ q, m % 64 = q := ⟨_, rfl⟩
    have hqi : (m : Int) % 64 = (qq : Int) := by omega
    have m0 : (0 : Int) ≤ (m : Int) := by omega
    have hz := HZZ.out
    by_cases h56 : qq = 56
    · have hbq : ((qq : Int) == 56) = true := by simp; omega
      have hbn : ((qq : Int) != 56) = false := by simp; omega
      have HGK := Aside0.mk (show z - gk = z by omega)
      have HMB := Aside0.mk (show m ≤ 1000064 by have := HL.out; have := HN.out; omega)
      have HM8 := Aside0.mk (show ∃ q, m + 8 = 64 * q from ⟨(m + 8) / 64, by omega⟩)
      clear hinv hLe hlen hm hqq h56 hz hgk hc3 hr3
      have HA := Aside0.mk (show FInv w (L ++ (sizeB (8 * n)).take 0) (.slice A3 m c3) wr by rw [List.take_zero, List.append_nil]; exact ⟨HO.out, HB.out, HZ.out⟩)
      go_wp2_with (fail)
      clear hbq hbn hqi HO HB HZ
      go_loopw [3, 5] (fun v i wx => ∃ k : Nat, k ≤ 8 ∧ i = .int .i64 k ∧ FInv w (L ++ (sizeB (8 * n)).take k) v wx) (fun _ i _ => 8 - (intOf i).toNat)
      case atStart => exact ⟨0, by omega, rfl, HA.out⟩
      case round =>
        clear HA
        obtain ⟨k, hk, rfl, hinv⟩ := hrel
        obtain ⟨L4, hL4⟩ : ∃ L4, L ++ (sizeB (8 * n)).take k = L4 := ⟨_, rfl⟩
        have HL4 := Aside0.mk hL4
        have hm4 : L4.length = m + k := by rw [← hL4, List.length_append, List.length_take, sizeB_len, HM.out]; omega
        rw [hL4] at hinv
        have HO := Aside0.mk hinv.1
        have HB := Aside0.mk hinv.2.1
        have HZ := Aside0.mk hinv.2.2
        obtain ⟨A4, c4, rfl, hc4, hr4⟩ := Ob.reads hinv.1
        have HR4 := Aside0.mk hr4
        have HM4 := Aside0.mk hm4
        by_cases hlt : k < 8
        · have h8 : k = 0 ∨ k = 1 ∨ k = 2 ∨ k = 3 ∨ k = 4 ∨ k = 5 ∨ k = 6 ∨ k = 7 := by omega
          clear hk hlt hinv hc4 hr4 hm4 hL4
          rcases h8 with rfl | rfl | rfl | rfl | rfl | rfl | rfl | rfl
          · go_wp2_with (first
              | ((with_reducible refine gate_dst (N := 39) rfl ?_); (try (refine gate_guard (by rfl) ?_; dsimp only)); refine lit_bytes (N := 39) ?hg ?hd [(n : Int) * 8 / 72057594037927936] [.int .u8 ((n : Int) * 8 / 72057594037927936)] rfl ?hr (by simp) ?_; (case hd => rfl); (case hg => rfl); (case hr => first | (go_simp; done) | (go_simp; rfl)); intro v w1 ho hb; have n1_ := Aside0.mk (Kd.R_below HO.out hb); have n2_ := Aside0.mk (below_step HB.out hb); have n3_ := Aside0.mk (blk_below HZ.out hb); clear HO HB HZ; have HO := n1_; have HB := n2_; have HZ := n3_; clear n1_ n2_ n3_ hb; obtain ⟨As, cs, rfl, hl_, hr_⟩ := Ob.reads ho; have HRs := Aside0.mk hr_; have HLs := Aside0.mk hl_; clear ho hl_ hr_)
              | ((with_reducible refine gate_builtin (b := .append) (xs := #[.tmp 31, .tmp 39]) rfl ?_); at_builtin; refine Kd.R_append_rows (Kd.int .u8) (w0 := w) w.heap.size rfl (.tmp 31) (.tmp 39) 22 5 (.int .u8 0) 1 rfl Try.underlying22 info_u8 rfl (by decide) (by omega) (.slice A4 L4.length c4) L4 [(n : Int) * 8 / 72057594037927936] _ _ _ (fun _ => True) (fun _ => False) rfl rfl HO.out HRs.out (fun _ _ h => h) (fun _ h => h.elim) (fun _ _ => trivial) HB.out HB.out.size (by have := HMB.out; have := HM4.out; simp; omega) ?_; intro v6 w5 ho hb hg hat; have n1_ := Aside0.mk (blk_grown HZ.out hg (Kd.R_ne HO.out HZ.out (by decide))); have n2_ := Aside0.mk ho; have n3_ := Aside0.mk hb; clear HZ HO HB; have HZ := n1_; have HO := n2_; have HB := n3_; clear n1_ n2_ n3_ ho hb hg hat))
            rw [← HL4.out, List.append_assoc, snoc_list (k := 0) (by rw [sizeB_len]; omega) (by show ((8 * n / 2 ^ (56 - 8 * 0) % 256 : Nat) : Int) = _; simp only [Nat.reduceMul, Nat.reduceSub, Nat.reducePow]; omega)] at HO
            go_roundw
            case rel => exact ⟨1, by omega, rfl, HO.out, HB.out, HZ.out⟩
            case measure => simp [intOf]
          · go_wp2_with (first
              | ((with_reducible refine gate_dst (N := 39) rfl ?_); (try (refine gate_guard (by rfl) ?_; dsimp only)); refine lit_bytes (N := 39) ?hg ?hd [(n : Int) * 8 / 281474976710656] [.int .u8 ((n : Int) * 8 / 281474976710656)] rfl ?hr (by simp) ?_; (case hd => rfl); (case hg => rfl); (case hr => first | (go_simp; done) | (go_simp; rfl)); intro v w1 ho hb; have n1_ := Aside0.mk (Kd.R_below HO.out hb); have n2_ := Aside0.mk (below_step HB.out hb); have n3_ := Aside0.mk (blk_below HZ.out hb); clear HO HB HZ; have HO := n1_; have HB := n2_; have HZ := n3_; clear n1_ n2_ n3_ hb; obtain ⟨As, cs, rfl, hl_, hr_⟩ := Ob.reads ho; have HRs := Aside0.mk hr_; have HLs := Aside0.mk hl_; clear ho hl_ hr_)
              | ((with_reducible refine gate_builtin (b := .append) (xs := #[.tmp 31, .tmp 39]) rfl ?_); at_builtin; refine Kd.R_append_rows (Kd.int .u8) (w0 := w) w.heap.size rfl (.tmp 31) (.tmp 39) 22 5 (.int .u8 0) 1 rfl Try.underlying22 info_u8 rfl (by decide) (by omega) (.slice A4 L4.length c4) L4 [(n : Int) * 8 / 281474976710656] _ _ _ (fun _ => True) (fun _ => False) rfl rfl HO.out HRs.out (fun _ _ h => h) (fun _ h => h.elim) (fun _ _ => trivial) HB.out HB.out.size (by have := HMB.out; have := HM4.out; simp; omega) ?_; intro v6 w5 ho hb hg hat; have n1_ := Aside0.mk (blk_grown HZ.out hg (Kd.R_ne HO.out HZ.out (by decide))); have n2_ := Aside0.mk ho; have n3_ := Aside0.mk hb; clear HZ HO HB; have HZ := n1_; have HO := n2_; have HB := n3_; clear n1_ n2_ n3_ ho hb hg hat))
            rw [← HL4.out, List.append_assoc, snoc_list (k := 1) (by rw [sizeB_len]; omega) (by show ((8 * n / 2 ^ (56 - 8 * 1) % 256 : Nat) : Int) = _; simp only [Nat.reduceMul, Nat.reduceSub, Nat.reducePow]; omega)] at HO
            go_roundw
            case rel => exact ⟨2, by omega, rfl, HO.out, HB.out, HZ.out⟩
            case measure => simp [intOf]
          · go_wp2_with (first
              | ((with_reducible refine gate_dst (N := 39) rfl ?_); (try (refine gate_guard (by rfl) ?_; dsimp only)); refine lit_bytes (N := 39) ?hg ?hd [(n : Int) * 8 / 1099511627776] [.int .u8 ((n : Int) * 8 / 1099511627776)] rfl ?hr (by simp) ?_; (case hd => rfl); (case hg => rfl); (case hr => first | (go_simp; done) | (go_simp; rfl)); intro v w1 ho hb; have n1_ := Aside0.mk (Kd.R_below HO.out hb); have n2_ := Aside0.mk (below_step HB.out hb); have n3_ := Aside0.mk (blk_below HZ.out hb); clear HO HB HZ; have HO := n1_; have HB := n2_; have HZ := n3_; clear n1_ n2_ n3_ hb; obtain ⟨As, cs, rfl, hl_, hr_⟩ := Ob.reads ho; have HRs := Aside0.mk hr_; have HLs := Aside0.mk hl_; clear ho hl_ hr_)
              | ((with_reducible refine gate_builtin (b := .append) (xs := #[.tmp 31, .tmp 39]) rfl ?_); at_builtin; refine Kd.R_append_rows (Kd.int .u8) (w0 := w) w.heap.size rfl (.tmp 31) (.tmp 39) 22 5 (.int .u8 0) 1 rfl Try.underlying22 info_u8 rfl (by decide) (by omega) (.slice A4 L4.length c4) L4 [(n : Int) * 8 / 1099511627776] _ _ _ (fun _ => True) (fun _ => False) rfl rfl HO.out HRs.out (fun _ _ h => h) (fun _ h => h.elim) (fun _ _ => trivial) HB.out HB.out.size (by have := HMB.out; have := HM4.out; simp; omega) ?_; intro v6 w5 ho hb hg hat; have n1_ := Aside0.mk (blk_grown HZ.out hg (Kd.R_ne HO.out HZ.out (by decide))); have n2_ := Aside0.mk ho; have n3_ := Aside0.mk hb; clear HZ HO HB; have HZ := n1_; have HO := n2_; have HB := n3_; clear n1_ n2_ n3_ ho hb hg hat))
            rw [← HL4.out, List.append_assoc, snoc_list (k := 2) (by rw [sizeB_len]; omega) (by show ((8 * n / 2 ^ (56 - 8 * 2) % 256 : Nat) : Int) = _; simp only [Nat.reduceMul, Nat.reduceSub, Nat.reducePow]; omega)] at HO
            go_roundw
            case rel => exact ⟨3, by omega, rfl, HO.out, HB.out, HZ.out⟩
            case measure => simp [intOf]
          · go_wp2_with (first
              | ((with_reducible refine gate_dst (N := 39) rfl ?_); (try (refine gate_guard (by rfl) ?_; dsimp only)); refine lit_bytes (N := 39) ?hg ?hd [(n : Int) * 8 / 4294967296] [.int .u8 ((n : Int) * 8 / 4294967296)] rfl ?hr (by simp) ?_; (case hd => rfl); (case hg => rfl); (case hr => first | (go_simp; done) | (go_simp; rfl)); intro v w1 ho hb; have n1_ := Aside0.mk (Kd.R_below HO.out hb); have n2_ := Aside0.mk (below_step HB.out hb); have n3_ := Aside0.mk (blk_below HZ.out hb); clear HO HB HZ; have HO := n1_; have HB := n2_; have HZ := n3_; clear n1_ n2_ n3_ hb; obtain ⟨As, cs, rfl, hl_, hr_⟩ := Ob.reads ho; have HRs := Aside0.mk hr_; have HLs := Aside0.mk hl_; clear ho hl_ hr_)
              | ((with_reducible refine gate_builtin (b := .append) (xs := #[.tmp 31, .tmp 39]) rfl ?_); at_builtin; refine Kd.R_append_rows (Kd.int .u8) (w0 := w) w.heap.size rfl (.tmp 31) (.tmp 39) 22 5 (.int .u8 0) 1 rfl Try.underlying22 info_u8 rfl (by decide) (by omega) (.slice A4 L4.length c4) L4 [(n : Int) * 8 / 4294967296] _ _ _ (fun _ => True) (fun _ => False) rfl rfl HO.out HRs.out (fun _ _ h => h) (fun _ h => h.elim) (fun _ _ => trivial) HB.out HB.out.size (by have := HMB.out; have := HM4.out; simp; omega) ?_; intro v6 w5 ho hb hg hat; have n1_ := Aside0.mk (blk_grown HZ.out hg (Kd.R_ne HO.out HZ.out (by decide))); have n2_ := Aside0.mk ho; have n3_ := Aside0.mk hb; clear HZ HO HB; have HZ := n1_; have HO := n2_; have HB := n3_; clear n1_ n2_ n3_ ho hb hg hat))
            rw [← HL4.out, List.append_assoc, snoc_list (k := 3) (by rw [sizeB_len]; omega) (by show ((8 * n / 2 ^ (56 - 8 * 3) % 256 : Nat) : Int) = _; simp only [Nat.reduceMul, Nat.reduceSub, Nat.reducePow]; omega)] at HO
            go_roundw
            case rel => exact ⟨4, by omega, rfl, HO.out, HB.out, HZ.out⟩
            case measure => simp [intOf]
          · go_wp2_with (first
              | ((with_reducible refine gate_dst (N := 39) rfl ?_); (try (refine gate_guard (by rfl) ?_; dsimp only)); refine lit_bytes (N := 39) ?hg ?hd [(n : Int) * 8 / 16777216] [.int .u8 ((n : Int) * 8 / 16777216)] rfl ?hr (by simp) ?_; (case hd => rfl); (case hg => rfl); (case hr => first | (go_simp; done) | (go_simp; rfl)); intro v w1 ho hb; have n1_ := Aside0.mk (Kd.R_below HO.out hb); have n2_ := Aside0.mk (below_step HB.out hb); have n3_ := Aside0.mk (blk_below HZ.out hb); clear HO HB HZ; have HO := n1_; have HB := n2_; have HZ := n3_; clear n1_ n2_ n3_ hb; obtain ⟨As, cs, rfl, hl_, hr_⟩ := Ob.reads ho; have HRs := Aside0.mk hr_; have HLs := Aside0.mk hl_; clear ho hl_ hr_)
              | ((with_reducible refine gate_builtin (b := .append) (xs := #[.tmp 31, .tmp 39]) rfl ?_); at_builtin; refine Kd.R_append_rows (Kd.int .u8) (w0 := w) w.heap.size rfl (.tmp 31) (.tmp 39) 22 5 (.int .u8 0) 1 rfl Try.underlying22 info_u8 rfl (by decide) (by omega) (.slice A4 L4.length c4) L4 [(n : Int) * 8 / 16777216] _ _ _ (fun _ => True) (fun _ => False) rfl rfl HO.out HRs.out (fun _ _ h => h) (fun _ h => h.elim) (fun _ _ => trivial) HB.out HB.out.size (by have := HMB.out; have := HM4.out; simp; omega) ?_; intro v6 w5 ho hb hg hat; have n1_ := Aside0.mk (blk_grown HZ.out hg (Kd.R_ne HO.out HZ.out (by decide))); have n2_ := Aside0.mk ho; have n3_ := Aside0.mk hb; clear HZ HO HB; have HZ := n1_; have HO := n2_; have HB := n3_; clear n1_ n2_ n3_ ho hb hg hat))
            rw [← HL4.out, List.append_assoc, snoc_list (k := 4) (by rw [sizeB_len]; omega) (by show ((8 * n / 2 ^ (56 - 8 * 4) % 256 : Nat) : Int) = _; simp only [Nat.reduceMul, Nat.reduceSub, Nat.reducePow]; omega)] at HO
            go_roundw
            case rel => exact ⟨5, by omega, rfl, HO.out, HB.out, HZ.out⟩
            case measure => simp [intOf]
          · go_wp2_with (first
              | ((with_reducible refine gate_dst (N := 39) rfl ?_); (try (refine gate_guard (by rfl) ?_; dsimp only)); refine lit_bytes (N := 39) ?hg ?hd [(n : Int) * 8 / 65536] [.int .u8 ((n : Int) * 8 / 65536)] rfl ?hr (by simp) ?_; (case hd => rfl); (case hg => rfl); (case hr => first | (go_simp; done) | (go_simp; rfl)); intro v w1 ho hb; have n1_ := Aside0.mk (Kd.R_below HO.out hb); have n2_ := Aside0.mk (below_step HB.out hb); have n3_ := Aside0.mk (blk_below HZ.out hb); clear HO HB HZ; have HO := n1_; have HB := n2_; have HZ := n3_; clear n1_ n2_ n3_ hb; obtain ⟨As, cs, rfl, hl_, hr_⟩ := Ob.reads ho; have HRs := Aside0.mk hr_; have HLs := Aside0.mk hl_; clear ho hl_ hr_)
              | ((with_reducible refine gate_builtin (b := .append) (xs := #[.tmp 31, .tmp 39]) rfl ?_); at_builtin; refine Kd.R_append_rows (Kd.int .u8) (w0 := w) w.heap.size rfl (.tmp 31) (.tmp 39) 22 5 (.int .u8 0) 1 rfl Try.underlying22 info_u8 rfl (by decide) (by omega) (.slice A4 L4.length c4) L4 [(n : Int) * 8 / 65536] _ _ _ (fun _ => True) (fun _ => False) rfl rfl HO.out HRs.out (fun _ _ h => h) (fun _ h => h.elim) (fun _ _ => trivial) HB.out HB.out.size (by have := HMB.out; have := HM4.out; simp; omega) ?_; intro v6 w5 ho hb hg hat; have n1_ := Aside0.mk (blk_grown HZ.out hg (Kd.R_ne HO.out HZ.out (by decide))); have n2_ := Aside0.mk ho; have n3_ := Aside0.mk hb; clear HZ HO HB; have HZ := n1_; have HO := n2_; have HB := n3_; clear n1_ n2_ n3_ ho hb hg hat))
            rw [← HL4.out, List.append_assoc, snoc_list (k := 5) (by rw [sizeB_len]; omega) (by show ((8 * n / 2 ^ (56 - 8 * 5) % 256 : Nat) : Int) = _; simp only [Nat.reduceMul, Nat.reduceSub, Nat.reducePow]; omega)] at HO
            go_roundw
            case rel => exact ⟨6, by omega, rfl, HO.out, HB.out, HZ.out⟩
            case measure => simp [intOf]
          · go_wp2_with (first
              | ((with_reducible refine gate_dst (N := 39) rfl ?_); (try (refine gate_guard (by rfl) ?_; dsimp only)); refine lit_bytes (N := 39) ?hg ?hd [(n : Int) * 8 / 256 % 256] [.int .u8 ((n : Int) * 8 / 256 % 256)] rfl ?hr (by simp) ?_; (case hd => rfl); (case hg => rfl); (case hr => first | (go_simp; done) | (go_simp; rfl)); intro v w1 ho hb; have n1_ := Aside0.mk (Kd.R_below HO.out hb); have n2_ := Aside0.mk (below_step HB.out hb); have n3_ := Aside0.mk (blk_below HZ.out hb); clear HO HB HZ; have HO := n1_; have HB := n2_; have HZ := n3_; clear n1_ n2_ n3_ hb; obtain ⟨As, cs, rfl, hl_, hr_⟩ := Ob.reads ho; have HRs := Aside0.mk hr_; have HLs := Aside0.mk hl_; clear ho hl_ hr_)
              | ((with_reducible refine gate_builtin (b := .append) (xs := #[.tmp 31, .tmp 39]) rfl ?_); at_builtin; refine Kd.R_append_rows (Kd.int .u8) (w0 := w) w.heap.size rfl (.tmp 31) (.tmp 39) 22 5 (.int .u8 0) 1 rfl Try.underlying22 info_u8 rfl (by decide) (by omega) (.slice A4 L4.length c4) L4 [(n : Int) * 8 / 256 % 256] _ _ _ (fun _ => True) (fun _ => False) rfl rfl HO.out HRs.out (fun _ _ h => h) (fun _ h => h.elim) (fun _ _ => trivial) HB.out HB.out.size (by have := HMB.out; have := HM4.out; simp; omega) ?_; intro v6 w5 ho hb hg hat; have n1_ := Aside0.mk (blk_grown HZ.out hg (Kd.R_ne HO.out HZ.out (by decide))); have n2_ := Aside0.mk ho; have n3_ := Aside0.mk hb; clear HZ HO HB; have HZ := n1_; have HO := n2_; have HB := n3_; clear n1_ n2_ n3_ ho hb hg hat))
            rw [← HL4.out, List.append_assoc, snoc_list (k := 6) (by rw [sizeB_len]; omega) (by show ((8 * n / 2 ^ (56 - 8 * 6) % 256 : Nat) : Int) = _; simp only [Nat.reduceMul, Nat.reduceSub, Nat.reducePow]; omega)] at HO
            go_roundw
            case rel => exact ⟨7, by omega, rfl, HO.out, HB.out, HZ.out⟩
            case measure => simp [intOf]
          · go_wp2_with (first
              | ((with_reducible refine gate_dst (N := 39) rfl ?_); (try (refine gate_guard (by rfl) ?_; dsimp only)); refine lit_bytes (N := 39) ?hg ?hd [(n : Int) * 8 % 256] [.int .u8 ((n : Int) * 8 % 256)] rfl ?hr (by simp) ?_; (case hd => rfl); (case hg => rfl); (case hr => first | (go_simp; done) | (go_simp; rfl)); intro v w1 ho hb; have n1_ := Aside0.mk (Kd.R_below HO.out hb); have n2_ := Aside0.mk (below_step HB.out hb); have n3_ := Aside0.mk (blk_below HZ.out hb); clear HO HB HZ; have HO := n1_; have HB := n2_; have HZ := n3_; clear n1_ n2_ n3_ hb; obtain ⟨As, cs, rfl, hl_, hr_⟩ := Ob.reads ho; have HRs := Aside0.mk hr_; have HLs := Aside0.mk hl_; clear ho hl_ hr_)
              | ((with_reducible refine gate_builtin (b := .append) (xs := #[.tmp 31, .tmp 39]) rfl ?_); at_builtin; refine Kd.R_append_rows (Kd.int .u8) (w0 := w) w.heap.size rfl (.tmp 31) (.tmp 39) 22 5 (.int .u8 0) 1 rfl Try.underlying22 info_u8 rfl (by decide) (by omega) (.slice A4 L4.length c4) L4 [(n : Int) * 8 % 256] _ _ _ (fun _ => True) (fun _ => False) rfl rfl HO.out HRs.out (fun _ _ h => h) (fun _ h => h.elim) (fun _ _ => trivial) HB.out HB.out.size (by have := HMB.out; have := HM4.out; simp; omega) ?_; intro v6 w5 ho hb hg hat; have n1_ := Aside0.mk (blk_grown HZ.out hg (Kd.R_ne HO.out HZ.out (by decide))); have n2_ := Aside0.mk ho; have n3_ := Aside0.mk hb; clear HZ HO HB; have HZ := n1_; have HO := n2_; have HB := n3_; clear n1_ n2_ n3_ ho hb hg hat))
            rw [← HL4.out, List.append_assoc, snoc_list (k := 7) (by rw [sizeB_len]; omega) (by show ((8 * n / 2 ^ (56 - 8 * 7) % 256 : Nat) : Int) = _; simp only [Nat.reduceMul, Nat.reduceSub, Nat.reducePow]; omega)] at HO
            go_roundw
            case rel => exact ⟨8, by omega, rfl, HO.out, HB.out, HZ.out⟩
            case measure => simp [intOf]
        · have HKE := Aside0.mk (show k = 8 by omega)
          have hge : 8 ≤ k := by omega
          have hdk : decide ((k : Int) < 8) = false := decide_eq_false (by omega)
          have HPAD := Aside0.mk (show L4 = t ++ padB n by
            rw [← HL4.out, HKE.out, List.take_of_length_le (by rw [sizeB_len]; omega), ← HLE.out, HGK.out, ← HZZ.out, padB]
            simp)
          have HC4 := Aside0.mk hc4
          have HLU := Aside0.mk (show ∀ x ∈ L4, 0 ≤ x ∧ x ≤ 255 by rw [HPAD.out]; exact pad_u8 HU.out n)
          obtain ⟨qq, hq8⟩ := HM8.out
          have HQ := Aside0.mk (show L4.length = 64 * qq by rw [hm4]; omega)
          have HQB := Aside0.mk (show qq ≤ 20000 by have := HMB.out; omega)
          clear hlt hk hinv hL4 hm4 hc4 hr4 hq8
          go_wp2_with (fail)
          have H0 := Aside0.mk (show SOI w L4 A4 wr.heap.size 0 (wr.alloc (.cells #[.int .u32 1779033703, .int .u32 3144134277, .int .u32 1013904242, .int .u32 2773480762, .int .u32 1359893119, .int .u32 2600822924, .int .u32 528734635, .int .u32 1541459225] 36)) from
            ⟨Kd.C_below HR4.out (below_alloc (Below.refl _ _) _), fun a ha h0 => reads_lt HR4.out a ha h0, below_alloc HB.out _, blk_alloc HZ.out _, by exact blk_new _ _, blk_lt HZ.out⟩)
          obtain ⟨mm, hmm⟩ : ∃ mm, L4.length = mm := ⟨_, rfl⟩
          obtain ⟨p, hp⟩ : ∃ p, wr.heap.size = p := ⟨_, rfl⟩
          have HMM := Aside0.mk hmm
          rw [hmm, hp]
          rw [hp] at H0
          clear hge hdk HB HZ HO HR4 hmm hp
          go_loopw [7] (fun i wx => ∃ j x : Nat, x = 64 * j ∧ j ≤ qq ∧ i = .int .i64 x ∧ SOI w L4 A4 p j wx) (fun i _ => mm - (intOf i).toNat)
          case atStart => exact ⟨0, 0, by omega, by omega, rfl, H0.out⟩
          case round =>
            clear H0
            obtain ⟨j, x, hx, hj, rfl, hinv⟩ := hrel
            have HI := Aside0.mk hinv
            have HX := Aside0.mk hx
            by_cases hlt : j < qq
            · have hm := HMM.out
              have hc := HC4.out
              have hq := HQ.out
              have hqb := HQB.out
              have g1 : (x : Int) < (mm : Int) := by omega
              have g2 : (x : Int) + 64 ≤ (c4 : Int) := by omega
              have g3 : (0 : Int) ≤ (x : Int) := by omega
              have g4 : (x : Int) ≤ 2000000 := by omega
              obtain ⟨D, hD⟩ : ∃ D, (nums .u32 (blocks L4 j)).toArray = D := ⟨_, rfl⟩
              have HD := Aside0.mk hD
              have h2 := hinv.2.2.2.2.1
              unfold Words at h2
              rw [hD] at h2
              have H2 := Aside0.mk (show wr.drew.heap[p]? = some (.cells D 36 (0, 0)) from h2)
              have HIF := Aside0.mk (show (Try.prog.info? 36).map (·.size) = some D.size by rw [← hD, show (nums .u32 (blocks L4 j)).toArray.size = 8 by simp [nums, blocks_len]]; exact info_8)
              clear hD h2
              have g5 : IntKind.i64.wrap ((x : Int) + 64) = (x : Int) + 64 := IntWalk.i64_in _ (by omega)
              have g6 : (0 : Int) ≤ (x : Int) + 64 := by omega
              have g7 : ((x : Int) + 64).toNat = x + 64 := by omega
              have g8 : ¬ c4 = x := by omega
              have g9 : x + 64 - x = 64 := by omega
              have HG := Aside0.mk (show x + 64 ≤ mm by omega)
              clear hm hc hq hqb hinv hx hj hlt
              go_wp2
              go_still_tail 6, (by kernel_rfl)
              change wpStill _ _ wr.drew _ _ _
              refine still_load_row rfl 36 (.tmp 6) rfl p rfl 36 D (0, 0) _ H2.out Try.underlying36 rfl HIF.out ?_
              repeat still_step
              refine wpStill_nil ?_
              change wpList _ _ _ _ _ wr.drew
              have HSB := Aside0.mk (show SOI w L4 A4 p j wr.drew from ⟨HI.out.1, HI.out.2.1, below_drew1 HI.out.2.2.1, HI.out.2.2.2⟩)
              have hcall := (block_c (A4.map (·.add x)) (c4 - x) ((L4.drop x).take 64) (blocks L4 j) wr.drew (rb_part HSB.out.1 x 64 c4 HC4.out (by have := HMM.out; have := HG.out; omega) (by have := HG.out; have := HMM.out; have := HC4.out; omega)) (by have := HG.out; have := HMM.out; have := HC4.out; omega) (by rw [List.length_take, List.length_drop]; have := HMM.out; have := HG.out; omega) (fun i hi => by
                have := part_u8 (HLU.out) x 64 i
                exact this) (blocks_len _ _) (blocks_u32 _ _))
              rw [show wordsV (blocks L4 j) = .agg D by rw [← HD.out]] at hcall
              have HCALL := Aside0.mk hcall
              clear hcall g1 g2 g3 g5 g6 g7 g8 g9
              go_wp2_with (fail)
              refine HCALL.out.mono ?_
              rintro e w2 ⟨rfl, h2⟩
              rw [show press (blocks L4 j) ((L4.drop x).take 64) = blocks L4 (j + 1) by rw [HX.out]; rfl]
              obtain ⟨D', hD'⟩ : ∃ D', (nums .u32 (blocks L4 (j + 1))).toArray = D' := ⟨_, rfl⟩
              have HD' := Aside0.mk hD'
              have hds : D'.size = 8 := by rw [← hD']; simp [nums, blocks_len]
              have HOL := Aside0.mk (show w2.heap[p]? = some (.cells D 36 (0, 0)) from blk_below H2.out h2)
              have HIF' := Aside0.mk (show (Try.prog.info? 36).map (·.size) = some D'.size by rw [hds]; exact info_8)
              have HSZ := Aside0.mk (show D.size = D'.size by rw [hds, ← HD.out]; simp [nums, blocks_len])
              have HONE := Aside0.mk (show D'.all (·.oneCell') = true by rw [← hD']; exact nums_one _ _)
              have H2B := Aside0.mk h2
              rw [show wordsV (blocks L4 (j + 1)) = .agg D' from by rw [← hD']]
              clear hD' hds h2 HSB
              go_wp2_with (first
                | ((with_reducible refine gate_store (t := 36) (p := 6) (v := .tmp 54) rfl ?_); refine wpList_store_row rfl 36 (.tmp 6) (.tmp 54) rfl p D' rfl rfl 36 D HOL.out HIF'.out HSZ.out HONE.out ?_))
              go_roundw
              case rel => exact ⟨j + 1, x + 64, by have := HX.out; omega, by have := HG.out; have := HQ.out; have := HX.out; have := HMM.out; omega, by go_num, SOI.next HI.out (below_drew_of H2B.out) HD'.out.symm⟩
              case measure => have := HG.out; simp [intOf]; omega
            · have HJ := Aside0.mk (show j = qq by omega)
              have hge : mm ≤ x := by have := HMM.out; have := HQ.out; omega
              have hdk : decide ((x : Int) < (mm : Int)) = false := decide_eq_false (by omega)
              clear hx hj hlt hinv
              go_wp2_with (fail)
              obtain ⟨s, hs⟩ : ∃ s, blocks L4 j = s := ⟨_, rfl⟩
              have HS := Aside0.mk hs
              have HSL := Aside0.mk (show s.length = 8 by rw [← hs]; exact blocks_len _ _)
              have HSU := Aside0.mk (show U32 s by rw [← hs]; exact blocks_u32 _ _)
              have HFIN := Aside0.mk (show shaB t = outB s by
                have e : t ++ padB t.length = L4 := by rw [HN.out]; exact HPAD.out.symm
                rw [shaB_eq t qq (by rw [e]; exact HQ.out), e, ← HJ.out, hs])
              obtain ⟨p8, hp8⟩ : ∃ x, wr.heap.size = x := ⟨_, rfl⟩
              have H8 := Aside0.mk (show RI w p p8 s 0 (wr.alloc (.cells Z32 24)) from ⟨by rw [← hs]; exact blk_alloc HI.out.2.2.2.2.1 _, below_alloc HI.out.2.2.1 _, blk_alloc HI.out.2.2.2.1 _, by rw [← hp8]; exact blk_new _ _, by rw [← hp8]; exact blk_lt HI.out.2.2.2.2.1, HI.out.2.2.2.2.2⟩)
              rw [hp8]
              clear hge hdk hs hp8 HI
              go_loopw [9] (fun i wx => ∃ m : Nat, m ≤ 32 ∧ i = .int .i64 m ∧ RI w p p8 s m wx) (fun i _ => 32 - (intOf i).toNat)
              case atStart => exact ⟨0, by omega, rfl, H8.out⟩
              case round =>
                clear H8
                obtain ⟨m, hm, rfl, hinv⟩ := hrel
                have HO := Aside0.mk hinv
                by_cases hlt : m < 32
                · obtain ⟨q, hq⟩ : ∃ q, m / 4 = q := ⟨_, rfl⟩
                  have HQ4 := Aside0.mk hq
                  have hc := hinv.1.cell q (by rw [HSL.out]; omega)
                  have hxr := HSU.out.at q
                  have hcell : wr.cell? ⟨p8, m, none⟩ = some (.int .u8 ((outN s m).getD m 0)) := by
                    rw [blk_cell hinv.2.2.2.1 m]
                    simp [nums, List.getElem?_eq_getElem (show m < (outN s m).length by rw [outN_len]; omega), List.getD_eq_getElem?_getD]
                  have hfree := blk_frozen hinv.2.2.2.1 m
                  obtain ⟨y, hy⟩ : ∃ x, s.getD q 0 = x := ⟨_, rfl⟩
                  obtain ⟨old, hold⟩ : ∃ x, (outN s m).getD m 0 = x := ⟨_, rfl⟩
                  rw [hy] at hc hxr
                  rw [hold] at hcell
                  have HY := Aside0.mk hy
                  have x0 := hxr.1
                  have x1 := hxr.2
                  have hqi : (m : Int) / 4 = (q : Int) := by omega
                  have q0 : (0 : Int) ≤ (q : Int) := by omega
                  have q1 : (q : Int) < 8 := by omega
                  have m0 : (0 : Int) ≤ (m : Int) := by omega
                  have m1 : (m : Int) < 32 := by omega
                  have hr4 : m % 4 = 0 ∨ m % 4 = 1 ∨ m % 4 = 2 ∨ m % 4 = 3 := by omega
                  clear hinv hold hxr hq hy
                  rcases hr4 with hr4 | hr4 | hr4 | hr4
                  · have hri : (m : Int) % 4 = 0 := by omega
                    have HR4 := Aside0.mk hr4
                    clear hr4
                    go_wp2
                    go_roundw
                    case rel => exact ⟨m + 1, by omega, by go_num, HO.out.next (by rw [HQ4.out, HY.out, HR4.out]; simp only [Nat.reduceMul, Nat.reduceSub, Int.reducePow] <;> omega)⟩
                    case measure => simp [intOf]; omega
                  · have hri : (m : Int) % 4 = 1 := by omega
                    have HR4 := Aside0.mk hr4
                    clear hr4
                    go_wp2
                    go_roundw
                    case rel => exact ⟨m + 1, by omega, by go_num, HO.out.next (by rw [HQ4.out, HY.out, HR4.out]; simp only [Nat.reduceMul, Nat.reduceSub, Int.reducePow] <;> omega)⟩
                    case measure => simp [intOf]; omega
                  · have hri : (m : Int) % 4 = 2 := by omega
                    have HR4 := Aside0.mk hr4
                    clear hr4
                    go_wp2
                    go_roundw
                    case rel => exact ⟨m + 1, by omega, by go_num, HO.out.next (by rw [HQ4.out, HY.out, HR4.out]; simp only [Nat.reduceMul, Nat.reduceSub, Int.reducePow] <;> omega)⟩
                    case measure => simp [intOf]; omega
                  · have hri : (m : Int) % 4 = 3 := by omega
                    have HR4 := Aside0.mk hr4
                    clear hr4
                    go_wp2
                    go_roundw
                    case rel => exact ⟨m + 1, by omega, by go_num, HO.out.next (by rw [HQ4.out, HY.out, HR4.out]; simp only [Nat.reduceMul, Nat.reduceSub, Int.reducePow] <;> omega)⟩
                    case measure => simp [intOf]; omega
                · have HM := Aside0.mk (show m = 32 by omega)
                  have hge : 32 ≤ m := by omega
                  obtain ⟨D, hD⟩ : ∃ D, (nums .u8 (outN s m)).toArray = D := ⟨_, rfl⟩
                  obtain ⟨Z, hZ⟩ : ∃ Z, Z32 = Z := ⟨_, rfl⟩
                  have h3 := hinv.2.2.2.1
                  have h2 := hinv.2.2.1
                  rw [hD] at h3
                  rw [hZ] at h2
                  have H3 := Aside0.mk h3
                  have H2 := Aside0.mk h2
                  have hds : D.size = 32 := by rw [← hD]; simp [nums, outN_len]
                  have hzs : Z.size = D.size := by rw [hds, ← hZ]; simp [Z32, nums]
                  have HIX := Aside0.mk (show (Try.prog.info? 24).map (·.size) = some D.size by rw [hds]; exact info_32)
                  have HZS := Aside0.mk hzs
                  have HONE := Aside0.mk (show D.all (·.oneCell') = true by rw [← hD]; exact nums_one _ _)
                  have HBL := Aside0.mk (And.intro hinv.2.1 hinv.2.2.2.2.2)
                  have HFI := Aside0.mk (show D = (nums .u8 (shaB t)).toArray by rw [← hD, HM.out, HFIN.out]; rfl)
                  clear hD hZ h3 h2 hds hzs hlt hm hinv
                  go_wp2_with (first
                    | ((with_reducible refine gate_dst (N := 72) rfl ?_); refine wpList_load_row rfl 24 (.tmp 8) rfl p8 rfl 24 D (0, 0) _ H3.out Try.underlying24 rfl HIX.out ?_)
                    | ((with_reducible refine gate_store (t := 24) (p := 2) (v := .tmp 72) rfl ?_); refine wpList_store_row rfl 24 (.tmp 2) (.tmp 72) rfl w.heap.size D rfl rfl 24 Z H2.out HIX.out HZS.out HONE.out ?_))
                  have HSR := setRow_heap wr w.heap.size Z D _ _ H2.out
                  refine bodyPost_ret (v := .agg D) (results_cell_row rfl _ _ w.heap.size 24 D (0, 0) _ rfl HSR Try.underlying24 rfl HIX.out) rfl ⟨by rw [HFI.out], below_setRow HBL.out.1 (Nat.le_refl _) D⟩
    · have hbq : ((qq : Int) == 56) = false := by simp; omega
      have hbn : ((qq : Int) != 56) = true := by simp; omega
      have HGK := Aside0.mk (show 0 < gk by omega)
      have HGZ := Aside0.mk hgk
      have HMB := Aside0.mk (show L.length ≤ 2000000 by have := HL.out; have := HN.out; omega)
      clear hinv hLe hlen hm hqq h56 hz hgk hc3 hr3
      go_wp2_with (first
        | ((with_reducible refine gate_dst (N := 21) rfl ?_); (try (refine gate_guard (by rfl) ?_; dsimp only)); refine lit_bytes (N := 21) ?hg ?hd [0] [.int .u8 (0)] rfl ?hr (by simp) ?_; (case hd => rfl); (case hg => rfl); (case hr => first | (go_simp; done) | (go_simp; rfl)); intro v w1 ho hb; have n1_ := Aside0.mk (Kd.R_below HO.out hb); have n2_ := Aside0.mk (below_step HB.out hb); have n3_ := Aside0.mk (blk_below HZ.out hb); clear HO HB HZ; have HO := n1_; have HB := n2_; have HZ := n3_; clear n1_ n2_ n3_ hb; obtain ⟨Ar, cr, rfl, hl_, hr_⟩ := Ob.reads ho; have HRr := Aside0.mk hr_; have HLr := Aside0.mk hl_; clear ho hl_ hr_)
        | ((with_reducible refine gate_builtin (b := .append) (xs := #[.tmp 20, .tmp 21]) rfl ?_); at_builtin; refine Kd.R_append_rows (Kd.int .u8) (w0 := w) w.heap.size rfl (.tmp 20) (.tmp 21) 22 5 (.int .u8 0) 1 rfl Try.underlying22 info_u8 rfl (by decide) (by omega) (.slice A3 m c3) L [0] _ _ _ (fun _ => True) (fun _ => False) rfl rfl HO.out HRr.out (fun _ _ h => h) (fun _ h => h.elim) (fun _ _ => trivial) HB.out HB.out.size (by have := HMB.out; simp; omega) ?_; intro v4 w5 ho hb hg hat; have n1_ := Aside0.mk (blk_grown HZ.out hg (Kd.R_ne HO.out HZ.out (by decide))); have n2_ := Aside0.mk ho; have n3_ := Aside0.mk hb; clear HZ HO HB; have HZ := n1_; have HO := n2_; have HB := n3_; clear n1_ n2_ n3_ ho hb hg hat))
      go_roundg (gk - 1)
      case measure => have := HGK.out; omega
      case rel =>
        refine ⟨by have := HGZ.out; omega, ?_⟩
        rw [show z - (gk - 1) = (z - gk) + 1 from by have := HGZ.out; have := HGK.out; omega, List.replicate_succ', ← List.append_assoc, HLE.out]
        exact ⟨HO.out, HB.out, HZ.out⟩
end Go.Proofs.Ytbebkogkeepfoaa.Sha
/- The document's Hex walked. -/
namespace Go.Proofs.Ytbebkogkeepfoaa.Sha
set_option linter.unusedVariables false
open Go.RowKit Go.Proofs.Ytbebkogkeepfoaa.Base Go.Proofs.Ytbebkogkeepfoaa.ShaPlain Go.Proofs.Ytbebkogkeepfoaa.Aid Go.Proofs.YtbebkogkeepfoaaW.PrintWords Go.Proofs.YtbebkogkeepfoaaW.PrintLast Go.Proofs.YtbebkogkeepfoaaW.PrintMore
theorem run_slice_dig (n : Int) (h0 : 0 ≤ n) (h1 : n ≤ 15) (w : World) : (Instr.slice 9 (.string ⟨#[48, 49, 50, 51, 52, 53, 54, 55, 56, 57, 97, 98, 99, 100, 101, 102]⟩) (some (.int .i64 n)) (some (.int .i64 (n + 1))) none).run Try.prog w = .ok (.string (strOfNums [dig n])) w := by
  have : n = 0 ∨ n = 1 ∨ n = 2 ∨ n = 3 ∨ n = 4 ∨ n = 5 ∨ n = 6 ∨ n = 7 ∨ n = 8 ∨ n = 9 ∨ n = 10 ∨ n = 11 ∨ n = 12 ∨ n = 13 ∨ n = 14 ∨ n = 15 := by omega
  rcases this with rfl | rfl | rfl | rfl | rfl | rfl | rfl | rfl | rfl | rfl | rfl | rfl | rfl | rfl | rfl | rfl
  all_goals (clear h0 h1; rw [run_slice_string (h := Try.underlying9) (h0 := by decide) (h1 := by decide) (h2 := by decide)]; rfl)
theorem str_app (a b : List Int) : strOfNums (a ++ b) = strOfNums a ++ strOfNums b := by
  apply ByteArray.ext
  apply Array.ext'
  simp [strOfNums]
set_option maxHeartbeats 4000000 in
set_option maxRecDepth 100000 in
theorem rhex_c (d : List Int) (hd : d.length = 32) (hu : ∀ x ∈ d, 0 ≤ x ∧ x ≤ 255) (w : World) :
    Calls Try.prog 17 #[.agg (nums .u8 d).toArray] w fun e w' => e = .returned (.string (strOfNums (hexB d))) ∧ Below w.heap.size w w' := by
  obtain ⟨C, hC⟩ : ∃ C, (nums .u8 d).toArray = C := ⟨_, rfl⟩
  have hcs : C.size = 32 := by rw [← hC]; simp [nums, hd]
  have hget : ∀ k, k < 32 → C[k]? = some (.int .u8 (d.getD k 0)) := fun k hk => by rw [← hC]; simp [nums, List.getElem?_eq_getElem (show k < d.length by omega), List.getD_eq_getElem?_getD]
  have HG := Aside0.mk hget
  have HD := Aside0.mk hd
  have HU := Aside0.mk hu
  rw [hC]
  clear hC hcs hget hd hu
  go_enter Try.func17, Try.ntmps17
  go_wp2_with (fail)
  have HBX := Aside0.mk (show (w.alloc (.cells C 24)).heap[w.heap.size]? = some (.cells C 24 (0, 0)) from blk_new _ _)
  go_loopw [4, 5, 6, 7] (fun v i _ _ wx => ∃ k : Nat, k ≤ 32 ∧ i = .int .i64 k ∧ v = .string (strOfNums (hexB (d.take k))) ∧ Below w.heap.size w wx ∧ wx.heap[w.heap.size]? = some (.cells C 24 (0, 0))) (fun _ i _ _ _ => 32 - (intOf i).toNat)
  case atStart => exact ⟨0, by omega, rfl, rfl, below_alloc (Below.refl _ _) _, HBX.out⟩
  case round =>
    clear HBX
    obtain ⟨k, hk, rfl, rfl, hbl, hbx⟩ := hrel
    have HB := Aside0.mk hbl
    have HX0 := Aside0.mk hbx
    by_cases hlt : k < 32
    · obtain ⟨x, hx⟩ : ∃ x, d.getD k 0 = x := ⟨_, rfl⟩
      have hc : wr.cell? ⟨w.heap.size, k, none⟩ = some (.int .u8 x) := by rw [blk_cell hbx k, HG.out k hlt, hx]
      have HX := Aside0.mk hx
      have hxr : 0 ≤ x ∧ x ≤ 255 := by
        rw [← hx, List.getD_eq_getElem?_getD, List.getElem?_eq_getElem (show k < d.length by have := HD.out; omega)]
        exact HU.out _ (List.getElem_mem _)
      have x0 := hxr.1
      have x1 := hxr.2
      have HH := Aside0.mk (show hexB (d.take (k + 1)) = hexB (d.take k) ++ [dig (x / 16), dig (x % 16)] by
        have hlt' : k < d.length := by have := HD.out; omega
        rw [Aid.take_snoc d k hlt', hexB_snoc, ← hx, List.getD_eq_getElem?_getD, List.getElem?_eq_getElem hlt']; rfl)
      clear hbl hbx hx hxr
      have k0 : (0 : Int) ≤ (k : Int) := by omega
      have k1 : (k : Int) < 32 := by omega
      go_wp2
      go_quiet (fail)
      have HB2 := Aside0.mk (pw_below_drewN HB.out nq)
      have HX2 := Aside0.mk (show (wr.drewN nq).heap[w.heap.size]? = some (.cells C 24 (0, 0)) from HX0.out)
      obtain ⟨w2, hw2⟩ : ∃ w2, wr.drewN nq = w2 := ⟨_, rfl⟩
      rw [hw2] at HB2 HX2 ⊢
      obtain ⟨y, hy⟩ : ∃ y, x / 16 = y := ⟨_, rfl⟩
      obtain ⟨z, hz⟩ : ∃ z, x % 16 = z := ⟨_, rfl⟩
      have y0 : 0 ≤ y := by omega
      have y1 : y ≤ 15 := by omega
      have z0 : 0 ≤ z := by omega
      have z1 : z ≤ 15 := by omega
      rw [hy, hz] at HH ⊢
      clear hw2 hc hy hz x0 x1
      have e1 : IntKind.i64.wrap (y + 1) = y + 1 := IntWalk.i64_in _ (by omega)
      have e2 : IntKind.i64.wrap (z + 1) = z + 1 := IntWalk.i64_in _ (by omega)
      have i1 := fun W => run_slice_dig y y0 y1 W
      have i2 := fun W => run_slice_dig z z0 z1 W
      obtain ⟨ya, hya⟩ : ∃ s, strOfNums [dig y] = s := ⟨_, rfl⟩
      obtain ⟨yb, hyb⟩ : ∃ s, strOfNums [dig z] = s := ⟨_, rfl⟩
      have HYA := Aside0.mk hya
      have HYB := Aside0.mk hyb
      rw [hya] at i1
      rw [hyb] at i2
      clear hya hyb
      have HL := Aside0.mk (show (hexB (d.take k)).length ≤ 64 by rw [hexB_len, List.length_take]; omega)
      have sa : ya.size = 1 := by rw [← HYA.out, strOfNums_size]; rfl
      have sb : yb.size = 1 := by rw [← HYB.out, strOfNums_size]; rfl
      obtain ⟨sk, hsk⟩ : ∃ s, strOfNums (hexB (d.take k)) = s := ⟨_, rfl⟩
      have sz : sk.size ≤ 64 := by rw [← hsk, strOfNums_size]; exact HL.out
      have q1 : ¬ 9223372036854775807 < sk.size + ya.size := by omega
      have q2 : ¬ 9223372036854775807 < sk.size + ya.size + yb.size := by omega
      have HE := Aside0.mk (show sk ++ ya ++ yb = strOfNums (hexB (d.take (k + 1))) by
        rw [HH.out, ← hsk, ← HYA.out, ← HYB.out, show [dig y, dig z] = [dig y] ++ [dig z] from rfl, ← List.append_assoc, str_app, str_app])
      rw [hsk]
      clear hsk sa sb sz HH HYA HYB
      go_wp2
      go_quiet (fail)
      go_wp2
      go_roundw
      case rel => exact ⟨k + 1, by omega, by go_num, by rw [HE.out], pw_below_drewN HB2.out nq, HX2.out⟩
      case measure => simp [intOf]; omega
    · have HKE := Aside0.mk (show d.take k = d from List.take_of_length_le (by have := HD.out; omega))
      have hge : 32 ≤ k := by omega
      clear hbl hlt hk
      go_wp2
      rw [HKE.out]
      go_ret
      exact ⟨rfl, HB.out⟩
end Go.Proofs.Ytbebkogkeepfoaa.Sha
/- ShaSums: the law's walk. -/
namespace Go.Proofs.Ytbebkogkeepfoaa.Sha
set_option linter.unusedVariables false
set_option linter.unusedSimpArgs false
open Go.RowKit Go.Proofs.Ytbebkogkeepfoaa.Base Go.Proofs.Ytbebkogkeepfoaa.ShaPlain Go.Proofs.Ytbebkogkeepfoaa.Aid Go.Proofs.YtbebkogkeepfoaaW.PrintWords Go.Proofs.YtbebkogkeepfoaaW.PrintLast Go.Proofs.YtbebkogkeepfoaaW.PrintMore
theorem range_blk {w : World} {g T : Nat} {cs : List Value} (h : w.heap[g]? = some (.cells cs.toArray T (0, 0))) : w.rangeAt g 0 cs := fun j v hv => by
  rw [Nat.zero_add, blk_cell h j]
  simpa using hv
set_option maxHeartbeats 4000000 in
set_option maxRecDepth 100000 in
theorem sums_walk (w : World) (A : Option Addr) (c : Nat) (b : List Int) (hr : Rb w A b) (hc : b.length ≤ c) (hu : ∀ x ∈ b, 0 ≤ x ∧ x ≤ 255) :
    Calls Try.prog 3 #[.slice A b.length c] w fun e w' => e = .returned (.bool true) ∧ Below w.heap.size w w' := by
  by_cases hl : 3000 < b.length
  · have hd : decide ((3000 : Int) < (b.length : Int)) = true := decide_eq_true (by omega)
    clear hr hc hu
    go_enter Try.func3, Try.ntmps3
    go_wp2_with (go_at_call 13; refine (live_c _).mono ?_; rintro e w' ⟨rfl, hb⟩)
    go_ret
    exact ⟨rfl, hb⟩
  · have hd : decide ((3000 : Int) < (b.length : Int)) = false := decide_eq_false (by omega)
    have HR := Aside0.mk hr
    have HC := Aside0.mk hc
    have HU := Aside0.mk hu
    have HL := Aside0.mk (show b.length ≤ 3000 by omega)
    obtain ⟨cs, hcs⟩ : ∃ cs, nums .u8 (shaB b) = cs := ⟨_, rfl⟩
    obtain ⟨hx, hhx⟩ : ∃ s, strOfNums (hexB (shaB b)) = s := ⟨_, rfl⟩
    have hlen : cs.length = 32 := by rw [← hcs]; simp [nums, shaB_len]
    have HLEN := Aside0.mk hlen
    have HOF := Aside0.mk (show ∀ W, Rb W A b → Calls Try.prog 14 #[.slice (some ⟨W.heap.size, 0, none⟩) 1 1] (W.alloc (.cells #[.slice A b.length c] 22)) fun e w' => e = .returned (.agg cs.toArray) ∧ Below W.heap.size W w' by
      intro W hW
      refine (of_c (some ⟨W.heap.size, 0, none⟩) 1 [b] _ (one_row W A c 22 b hW HC.out) (by simp) (by simpa using HU.out) (by have := HL.out; simp; omega) (by simp)).mono ?_
      rintro e w' ⟨rfl, h⟩
      rw [show [b].flatten = b from by simp, hcs]
      exact ⟨rfl, below_step (below_alloc (Below.refl _ _) _) h⟩)
    have HROF := Aside0.mk (show ∀ W, Rb W A b → Calls Try.prog 15 #[.slice A b.length c] W fun e w' => e = .returned (.agg cs.toArray) ∧ Below W.heap.size W w' by
      intro W hW
      rw [← hcs]
      exact rof_c A c b W hW HC.out HU.out (by have := HL.out; omega))
    have HHEX := Aside0.mk (show ∀ W, Calls Try.prog 16 #[.agg cs.toArray] W fun e w' => e = .returned (.string hx) ∧ Below W.heap.size W w' by
      intro W
      rw [← hcs, ← hhx]
      exact hex_c (shaB b) (shaB_len _) (shaB_u8 _) W)
    have HRHEX := Aside0.mk (show ∀ W, Calls Try.prog 17 #[.agg cs.toArray] W fun e w' => e = .returned (.string hx) ∧ Below W.heap.size W w' by
      intro W
      rw [← hcs, ← hhx]
      exact rhex_c (shaB b) (shaB_len _) (shaB_u8 _) W)
    have HEQ := Aside0.mk (show ∀ W, (Op.equalIn 10000 24 (.agg cs.toArray) (.agg cs.toArray)).run Try.prog W = .ok true W by
      intro W
      have h := run_eq_sum (shaB b) (shaB b) (shaB_len _) (shaB_len _) W
      rw [decide_eq_true rfl] at h
      rw [← hcs]
      exact h)
    have HIF := Aside0.mk (show (Try.prog.info? 24).map (·.size) = some cs.length by rw [hlen]; exact info_32)
    have HIA := Aside0.mk (show (Try.prog.info? 24).map (·.size) = some cs.toArray.size by simp only [List.size_toArray]; rw [hlen]; exact info_32)
    have HSZ := Aside0.mk (show Z32.size = cs.toArray.size by simp [Z32, nums, hlen])
    have HONE := Aside0.mk (show cs.toArray.all (·.oneCell') = true by rw [← hcs]; exact nums_one _ _)
    clear hr hc hu hl hcs hhx hlen
    go_enter Try.func3, Try.ntmps3
    go_wp2_with (fail)
    refine (HOF.out _ HR.out).mono ?_
    rintro e w1 ⟨rfl, hb⟩
    have HB1 := Aside0.mk hb
    clear hb
    go_wp2_with ((with_reducible refine gate_store (t := 24) (p := 3) (v := .tmp 10) rfl ?_); refine wpList_store_row rfl 24 (.tmp 3) (.tmp 10) rfl w1.heap.size cs.toArray rfl rfl 24 Z32 (by exact blk_new _ _) HIA.out HSZ.out HONE.out ?_; rw [World.setRow_alloc_new])
    obtain ⟨g, hg⟩ : ∃ g, w1.heap.size = g := ⟨_, rfl⟩
    obtain ⟨W, hW⟩ : ∃ W, w1.alloc (.cells cs.toArray 24) = W := ⟨_, rfl⟩
    have HG1 := Aside0.mk (show W.heap[g]? = some (.cells cs.toArray 24 (0, 0)) by rw [← hW, ← hg]; exact blk_new _ _)
    have HB2 := Aside0.mk (show Below w.heap.size w W by rw [← hW]; exact below_alloc HB1.out _)
    rw [hW, hg]
    clear hW hg HB1 HSZ HIA HONE HOF HC HU
    have hguard := guard_32
    have heq := HEQ.out
    have hu24 := Try.underlying24
    have hi24 := HIF.out
    have s1 : W.rangeAt g 0 cs := range_blk HG1.out
    go_wp2_with (fail)
    refine wp_region_held_drew (S := fun w' => w'.rangeAt g 0 cs) (by kernel_rfl) s1 (fun hHeld => ?_)
    refine wpAnyH_take (i := 0) rfl (by kernel_rfl) (by kernel_rfl) (by kernel_rfl) (fun _ _ _ h => h) (yieldsIf_load_mid (by rfl) _ _ rfl _ _ rfl _ _ (fun _ h => h) (by assumption) rfl HIF.out) (by assumption) ?_
    (try simp only [Act.put, List.getElem_toArray, List.getElem_cons_zero, List.getElem_cons_succ, List.setIfInBounds_toArray, List.set_cons_zero, List.set_cons_succ])
    refine wpAnyH_take (i := 1) (v := ?_) rfl (by kernel_rfl) (by kernel_rfl) (by kernel_rfl) (fun _ _ _ h => h) (Or.inl ⟨by rfl, ?_⟩) (by assumption) ?_
    case' refine_2 => (intro w hSw; go_simp; try with_reducible rfl)
    (try simp only [Act.put, List.getElem_toArray, List.getElem_cons_zero, List.getElem_cons_succ, List.setIfInBounds_toArray, List.set_cons_zero, List.set_cons_succ])
    refine wpAnyH_ready (rs := [2]) (by kernel_rfl) (by simp) (AllReadyH.cons rfl (fun K hK => ?_) AllReadyH.nil)
    go_simp
    refine (HROF.out _ (Kd.C_below HR.out (below_drew1 HB2.out))).mono ?_
    rintro e w3 ⟨rfl, hb⟩
    have HG3 := Aside0.mk (blk_below HG1.out (below_drew_of hb))
    have HB3 := Aside0.mk (below_step HB2.out (below_drew_of hb))
    clear hb
    refine Shut.out hK _ _ (range_blk HG3.out) (fun hHeld => ?_)
    clear hK K
    (try simp only [Act.put, List.getElem_toArray, List.getElem_cons_zero, List.getElem_cons_succ, List.setIfInBounds_toArray, List.set_cons_zero, List.set_cons_succ])
    refine wpAnyH_take (i := 3) (v := ?_) rfl (by kernel_rfl) (by kernel_rfl) (by kernel_rfl) (fun _ _ _ h => h) (Or.inl ⟨by rfl, ?_⟩) (by assumption) ?_
    case' refine_2 => (intro w hSw; go_simp; try with_reducible rfl)
    (try simp only [Act.put, List.getElem_toArray, List.getElem_cons_zero, List.getElem_cons_succ, List.setIfInBounds_toArray, List.set_cons_zero, List.set_cons_succ])
    refine wpAnyH_take (i := 4) (v := ?_) rfl (by kernel_rfl) (by kernel_rfl) (by kernel_rfl) (fun _ _ _ h => h) (Or.inl ⟨by rfl, ?_⟩) (by assumption) ?_
    case' refine_2 => (intro w hSw; go_simp; try with_reducible rfl)
    (try simp only [Act.put, List.getElem_toArray, List.getElem_cons_zero, List.getElem_cons_succ, List.setIfInBounds_toArray, List.set_cons_zero, List.set_cons_succ])
    refine wpAnyH_take (i := 5) rfl (by kernel_rfl) (by kernel_rfl) (by kernel_rfl) (fun _ _ _ h => h) (yieldsIf_load_mid (by rfl) _ _ rfl _ _ rfl _ _ (fun _ h => h) (by assumption) rfl HIF.out) (by assumption) ?_
    (try simp only [Act.put, List.getElem_toArray, List.getElem_cons_zero, List.getElem_cons_succ, List.setIfInBounds_toArray, List.set_cons_zero, List.set_cons_succ])
    refine wpAnyH_take (i := 7) rfl (by kernel_rfl) (by kernel_rfl) (by kernel_rfl) (fun _ _ _ h => h) (yieldsIf_load_mid (by rfl) _ _ rfl _ _ rfl _ _ (fun _ h => h) (by assumption) rfl HIF.out) (by assumption) ?_
    (try simp only [Act.put, List.getElem_toArray, List.getElem_cons_zero, List.getElem_cons_succ, List.setIfInBounds_toArray, List.set_cons_zero, List.set_cons_succ])
    refine wpAnyH_ready (rs := [6]) (by kernel_rfl) (by simp) (AllReadyH.cons rfl (fun K hK => ?_) AllReadyH.nil)
    go_simp
    refine (HHEX.out _).mono ?_
    rintro e w4 ⟨rfl, hb⟩
    have HG4 := Aside0.mk (blk_below HG3.out hb)
    have HB4 := Aside0.mk (below_step HB3.out hb)
    clear hb
    refine Shut.out hK _ _ (range_blk HG4.out) (fun hHeld => ?_)
    clear hK K
    (try simp only [Act.put, List.getElem_toArray, List.getElem_cons_zero, List.getElem_cons_succ, List.setIfInBounds_toArray, List.set_cons_zero, List.set_cons_succ])
    refine wpAnyH_ready (rs := [8]) (by kernel_rfl) (by simp) (AllReadyH.cons rfl (fun K hK => ?_) AllReadyH.nil)
    go_simp
    refine (HRHEX.out _).mono ?_
    rintro e w5 ⟨rfl, hb⟩
    have HG5 := Aside0.mk (blk_below HG4.out hb)
    have HB5 := Aside0.mk (below_step HB4.out hb)
    clear hb
    refine Shut.out hK _ _ (range_blk HG5.out) (fun hHeld => ?_)
    clear hK K
    (try simp only [Act.put, List.getElem_toArray, List.getElem_cons_zero, List.getElem_cons_succ, List.setIfInBounds_toArray, List.set_cons_zero, List.set_cons_succ])
    refine wpAnyH_take (i := 9) (v := ?_) rfl (by kernel_rfl) (by kernel_rfl) (by kernel_rfl) (fun _ _ _ h => h) (Or.inl ⟨by rfl, ?_⟩) (by assumption) ?_
    case' refine_2 => (intro w hSw; go_simp; try with_reducible rfl)
    (try simp only [Act.put, List.getElem_toArray, List.getElem_cons_zero, List.getElem_cons_succ, List.setIfInBounds_toArray, List.set_cons_zero, List.set_cons_succ])
    refine wpAnyH_take (i := 10) (v := ?_) rfl (by kernel_rfl) (by kernel_rfl) (by kernel_rfl) (fun _ _ _ h => h) (Or.inl ⟨by rfl, ?_⟩) (by assumption) ?_
    case' refine_2 => (intro w hSw; go_simp; try with_reducible rfl)
    (try simp only [Act.put, List.getElem_toArray, List.getElem_cons_zero, List.getElem_cons_succ, List.setIfInBounds_toArray, List.set_cons_zero, List.set_cons_succ])
    refine wpAnyH_take (i := 11) (v := ?_) rfl (by kernel_rfl) (by kernel_rfl) (by kernel_rfl) (fun _ _ _ h => h) (Or.inl ⟨by rfl, ?_⟩) (by assumption) ?_
    case' refine_2 => (intro w hSw; go_simp; try with_reducible rfl)
    (try simp only [Act.put, List.getElem_toArray, List.getElem_cons_zero, List.getElem_cons_succ, List.setIfInBounds_toArray, List.set_cons_zero, List.set_cons_succ])
    refine wpAnyH_ready (rs := [12]) (by kernel_rfl) (by simp) (AllReadyH.cons rfl (fun K hK => ?_) AllReadyH.nil)
    go_simp
    refine (live_c _).mono ?_
    rintro e w6 ⟨rfl, hb⟩
    have HG6 := Aside0.mk (blk_below HG5.out hb)
    have HB6 := Aside0.mk (below_step HB5.out hb)
    clear hb
    refine Shut.out hK _ _ (range_blk HG6.out) (fun hHeld => ?_)
    clear hK K
    (try simp only [Act.put, List.getElem_toArray, List.getElem_cons_zero, List.getElem_cons_succ, List.setIfInBounds_toArray, List.set_cons_zero, List.set_cons_succ])
    refine wpAnyH_take (i := 13) (v := ?_) rfl (by kernel_rfl) (by kernel_rfl) (by kernel_rfl) (fun _ _ _ h => h) (Or.inl ⟨by rfl, ?_⟩) (by assumption) ?_
    case' refine_2 => (intro w hSw; go_simp; try with_reducible rfl)
    (try simp only [Act.put, List.getElem_toArray, List.getElem_cons_zero, List.getElem_cons_succ, List.setIfInBounds_toArray, List.set_cons_zero, List.set_cons_succ])
    refine wpAnyH_take (i := 14) (v := ?_) rfl (by kernel_rfl) (by kernel_rfl) (by kernel_rfl) (fun _ _ _ h => h) (Or.inl ⟨by rfl, ?_⟩) (by assumption) ?_
    case' refine_2 => (intro w hSw; go_simp; try with_reducible rfl)
    (try simp only [Act.put, List.getElem_toArray, List.getElem_cons_zero, List.getElem_cons_succ, List.setIfInBounds_toArray, List.set_cons_zero, List.set_cons_succ])
    refine wpAnyH_done (by kernel_rfl) ?_ _
    go_wp2_with (fail)
    go_ret
    exact ⟨rfl, HB6.out⟩
theorem sumsWalk (w : World) (A : Option Addr) (c : Nat) (b : List Int) (hr : Kd.C (Kd.int .u8) w A b.length b) (hc : b.length ≤ c) (ok : ∀ x ∈ b, (Lit.int .u8 x).wf = true) :
    Calls Try.prog 3 #[.slice A b.length c] w fun e w' => e = .returned (.bool true) ∧ Below w.heap.size w w' := sums_walk w A c b hr hc (fun x hx => byte_wf (ok x hx))
end Go.Proofs.Ytbebkogkeepfoaa.Sha
