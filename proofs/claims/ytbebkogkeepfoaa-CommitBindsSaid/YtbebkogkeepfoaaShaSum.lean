import Derived.Test.YtbebkogkeepfoaaShaWrite
import Derived.Great.BuildSlice
import Derived.Deep.WholeRow
import Derived.Deep.DeepMust
/- sha: Sum walked. -/
namespace Go.Proofs.Ytbebkogkeepfoaa.Sha
set_option linter.unusedVariables false
open Go.RowKit Go.Proofs.Ytbebkogkeepfoaa.Base Go.Proofs.Ytbebkogkeepfoaa.ShaPlain Go.Proofs.Ytbebkogkeepfoaa.Aid Go.Proofs.YtbebkogkeepfoaaW.PrintWords Go.Proofs.YtbebkogkeepfoaaW.PrintLast Go.Proofs.YtbebkogkeepfoaaW.PrintMore
/-- What is put behind a text of n bytes. -/
def sizeB (m : Nat) : List Int := (List.range 8).map fun i => ((m / 2 ^ (56 - 8 * i) % 256 : Nat) : Int)
def padB (n : Nat) : List Int := 128 :: (List.replicate ((119 - n % 64) % 64) 0 ++ sizeB (8 * n))
def outN (s : List Int) : Nat → List Int
  | 0 => List.replicate 32 0
  | k + 1 => (outN s k).set k (s.getD (k / 4) 0 / 2 ^ (24 - 8 * (k % 4)) % 256)
def outB (s : List Int) : List Int := outN s 32
theorem outN_len (s : List Int) : ∀ k, (outN s k).length = 32
  | 0 => by simp [outN]
  | k + 1 => by simp [outN, outN_len s k]
theorem outN_u8 (s : List Int) : ∀ k, ∀ x ∈ outN s k, 0 ≤ x ∧ x ≤ 255
  | 0 => fun x hx => by rw [outN] at hx; rw [List.eq_of_mem_replicate hx]; omega
  | k + 1 => fun x hx => (List.mem_or_eq_of_mem_set hx).elim (outN_u8 s k x) (fun e => by subst e; omega)
def sumB (st : St) : List Int := outB ((padB st.2.2).foldl put st).1
theorem info_hash : (Try.prog.info? 40).map (·.size) = some 74 := by kernel_rfl
theorem info_32 : (Try.prog.info? 24).map (·.size) = some 32 := by kernel_rfl
theorem hashC_one {made : Bool} {s r : List Int} {n : Int} : (hashC made s r n).toArray.all (·.oneCell') = true := by
  refine all_oneCell_toArray fun v hv => ?_
  simp only [hashC, nums, List.mem_cons, List.mem_append, List.mem_map, List.not_mem_nil, or_false] at hv
  rcases hv with rfl | ⟨x, _, rfl⟩ | ⟨x, _, rfl⟩ | rfl <;> rfl
/-- Sum under way: the copy, and the two cells of the answer. -/
def SInv (w : World) (g p2 p3 : Nat) (st : St) (W : World) : Prop :=
  HS w W g st ∧ Below w.heap.size w W ∧ W.heap[p2]? = some (.cells (nums .u8 (List.replicate 32 0)).toArray 24 (0, 0)) ∧ W.heap[p3]? = some (.cells (nums .u8 (List.replicate 32 0)).toArray 24 (0, 0)) ∧ p2 ≠ g ∧ p3 ≠ g ∧ p2 ≠ p3 ∧ w.heap.size ≤ p2 ∧ w.heap.size ≤ p3
theorem copy_block (w : World) (Z Z' : Obj) (C0 C : Array Value) (T : Nat) : (((w.alloc Z).alloc Z').alloc (.cells C0 T)).setRow (w.heap.size + 1 + 1) C = ((w.alloc Z).alloc Z').alloc (.cells C T) := by
  have h := World.setRow_alloc_new ((w.alloc Z).alloc Z') C0 C T
  simpa using h
theorem third_new (w : World) (Z Z' o : Obj) : (((w.alloc Z).alloc Z').alloc o).heap[w.heap.size + 1 + 1]? = some o := by
  have h := blk_new ((w.alloc Z).alloc Z') o
  simpa using h
theorem SInv.start {w : World} {s r : List Int} {n : Nat} (hs : s.length = 8) (hr : r.length = 64) (hsu : U32 s) (hru : ∀ x ∈ r, 0 ≤ x ∧ x ≤ 255) {C : Array Value} (hC : (hashC true s r (n : Int)).toArray = C) :
    SInv w (w.heap.size + 1 + 1) w.heap.size (w.heap.size + 1) (s, r, n) (((w.alloc (.cells (nums .u8 (List.replicate 32 0)).toArray 24)).alloc (.cells (nums .u8 (List.replicate 32 0)).toArray 24)).alloc (.cells C 40)) := by
  subst hC
  have e1 : (w.alloc (.cells (nums .u8 (List.replicate 32 0)).toArray 24)).heap.size = w.heap.size + 1 := by simp
  have e2 : ((w.alloc (.cells (nums .u8 (List.replicate 32 0)).toArray 24)).alloc (.cells (nums .u8 (List.replicate 32 0)).toArray 24)).heap.size = w.heap.size + 1 + 1 := by simp
  refine ⟨⟨by omega, ?_, hs, hr, hsu, hru⟩, below_alloc (below_alloc (below_alloc (Below.refl _ _) _) _) _, ?_, ?_, by omega, by omega, by omega, by omega, by omega⟩
  · rw [← e2]; exact blk_new _ _
  · exact blk_alloc (blk_alloc (blk_new w _) _) _
  · have h := blk_new (w.alloc (.cells (nums .u8 (List.replicate 32 0)).toArray 24)) (.cells (nums .u8 (List.replicate 32 0)).toArray 24)
    rw [e1] at h
    exact blk_alloc h _
theorem one_u8 (w : World) (x : Int) (T : Nat) : Rb (w.alloc (.cells #[.int .u8 x] T)) (some ⟨w.heap.size, 0, none⟩) [x] := by
  refine Kd.C_of_reads (d := (0 : Int)) ⟨rfl, by simp, fun _ => ⟨_, rfl, fun j hj => ?_⟩⟩
  have h0 : j = 0 := by simp at hj; exact hj
  subst h0
  rw [show (⟨w.heap.size, 0, none⟩ : Addr).add 0 = ⟨w.heap.size, 0, none⟩ from rfl]
  simp [World.cell?_alloc_new]
theorem write1 {w W : World} {g p2 p3 : Nat} {st : St} (h : SInv w g p2 p3 st W) (x : Int) (hx : 0 ≤ x ∧ x ≤ 255) (T : Nat) (hn : st.2.2 ≤ 2000000000000) :
    Calls Try.prog 19 #[.pointer (some ⟨g, 0, none⟩), .slice (some ⟨W.heap.size, 0, none⟩) 1 1] (W.alloc (.cells #[.int .u8 x] T)) fun e w' => e = .returned (.tuple #[]) ∧ SInv w g p2 p3 (put st x) w' := by
  obtain ⟨h1, h2, h3, h4, h5, h6, h7, h8, h9⟩ := h
  have hb : Below W.heap.size W (W.alloc (.cells #[.int .u8 x] T)) := below_alloc (Below.refl _ _) _
  refine (write_c w _ g st (some ⟨W.heap.size, 0, none⟩) 1 [x] (Hsh.below h1 hb) (below_step h2 hb) (one_u8 W x T) (by simp) (by simpa using hx) (fun a ha _ => by have := Hsh.lt h1; injection ha with ha; subst ha; exact Nat.ne_of_gt this) (by simp only [List.length_cons, List.length_nil]; omega)).mono ?_
  rintro e w' ⟨rfl, k1, k2, k3⟩
  exact ⟨rfl, k1, k2, k3.blk (blk_below h3 hb) h5 (by simp), k3.blk (blk_below h4 hb) h6 (by simp), h5, h6, h7, h8, h9⟩
/-- The answer's bytes under way. -/
def OInv (w : World) (g p2 p3 : Nat) (st : St) (k : Nat) (W : World) : Prop :=
  HS w W g st ∧ Below w.heap.size w W ∧ W.heap[p2]? = some (.cells (nums .u8 (List.replicate 32 0)).toArray 24 (0, 0)) ∧ W.heap[p3]? = some (.cells (nums .u8 (outN st.1 k)).toArray 24 (0, 0)) ∧ p3 ≠ g ∧ p2 ≠ p3 ∧ w.heap.size ≤ p2 ∧ w.heap.size ≤ p3
theorem OInv.next {w W : World} {g p2 p3 k : Nat} {st : St} (h : OInv w g p2 p3 st k W) {x : Int} (hx : x = st.1.getD (k / 4) 0 / 2 ^ (24 - 8 * (k % 4)) % 256) : OInv w g p2 p3 st (k + 1) (W.setCell ⟨p3, k, none⟩ (.int .u8 x)) := by
  subst hx
  obtain ⟨h1, h2, h3, h4, h5, h6, h7, h8⟩ := h
  have hk : KeepBut W (W.setCell ⟨p3, k, none⟩ (.int .u8 (st.1.getD (k / 4) 0 / 2 ^ (24 - 8 * (k % 4)) % 256))) p3 none := keep_set _ _ _ _
  refine ⟨Hsh.keep h1 hk (Ne.symm h5), below_set h2 h8, hk.blk h3 h6 (by simp), ?_, h5, h6, h7, h8⟩
  have := blk_set h4 k (.int .u8 (st.1.getD (k / 4) 0 / 2 ^ (24 - 8 * (k % 4)) % 256))
  rw [nums_set] at this
  exact this
theorem nums_one (k : IntKind) (l : List Int) : (nums k l).toArray.all (·.oneCell') = true := by
  refine all_oneCell_toArray fun v hv => ?_
  obtain ⟨x, _, rfl⟩ := List.mem_map.1 hv
  rfl
theorem snoc_at {st : St} {L : List Int} {k : Nat} {x : Int} (hk : k < L.length) (hx : L.getD k 0 = x) : put (List.foldl put st (L.take k)) x = List.foldl put st (L.take (k + 1)) := by
  rw [foldl_snoc hk, ← hx, List.getD_eq_getElem?_getD, List.getElem?_eq_getElem hk]; rfl
theorem sizeB_len (m : Nat) : (sizeB m).length = 8 := by simp [sizeB]
theorem take_n (st : St) (L : List Int) (k : Nat) : (List.foldl put st (L.take k)).2.2 ≤ st.2.2 + k := by
  rw [puts_n, List.length_take]; omega
set_option maxHeartbeats 8000000 in
set_option maxRecDepth 100000 in
theorem sum_c (w : World) (g : Nat) (st : St) (h : w.heap[g]? = some (.cells (hashC true st.1 st.2.1 st.2.2).toArray 40 (0, 0))) (hs : st.1.length = 8) (hr : st.2.1.length = 64) (hsu : U32 st.1) (hru : ∀ x ∈ st.2.1, 0 ≤ x ∧ x ≤ 255) (hn : st.2.2 ≤ 1000000000000) :
    Calls Try.prog 20 #[.pointer (some ⟨g, 0, none⟩)] w fun e w' => e = .returned (.agg (nums .u8 (sumB st)).toArray) ∧ Below w.heap.size w w' := by
  have c0 : w.cell? ⟨g, 0, none⟩ = some (.bool true) := (blk_cell h 0).trans (by simp [hashC])
  obtain ⟨s, r, n⟩ := st
  dsimp only at h hs hr hsu hru hn
  have cn : w.cell? ⟨g, 73, none⟩ = some (.int .u64 (n : Int)) := (blk_cell h 73).trans (by simpa using hashC_n hs hr)
  have hlt := blk_lt h
  have hsz : (hashC true s r (n : Int)).toArray.size = 74 := by simpa using hashC_len hs hr
  have HZ := Aside0.mk hsz
  have HB := Aside0.mk h
  have HL := Aside0.mk (And.intro hs hr)
  have HU := Aside0.mk (And.intro hsu hru)
  have HN := Aside0.mk hn
  have HG := Aside0.mk hlt
  obtain ⟨C, hC⟩ : ∃ C, (hashC true s r (n : Int)).toArray = C := ⟨_, rfl⟩
  have HCC := Aside0.mk hC
  have n0 : (0 : Int) ≤ (n : Int) := by omega
  have n1 : (n : Int) ≤ 1000000000000 := by omega
  have hlt1 : g < w.heap.size + 1 := by omega
  rw [hC] at HB hsz
  have HZS := Aside0.mk (show (Try.prog.info? 40).map (·.size) = some C.size by rw [hsz]; exact info_hash)
  have HZ74 := Aside0.mk (show (74 : Nat) = C.size from hsz.symm)
  have HONE := Aside0.mk (show C.all (·.oneCell') = true by rw [← hC]; exact hashC_one)
  clear h hs hr hsu hru hn hsz hC HZ
  go_enter Try.func20, Try.ntmps20
  have H4 := fun W => fun (hW : ((w.alloc (.cells (nums .u8 (List.replicate 32 0)).toArray 24)).alloc (.cells (nums .u8 (List.replicate 32 0)).toArray 24)).alloc (.cells C 40) = W) => hW ▸ SInv.start (w := w) HL.out.1 HL.out.2 HU.out.1 HU.out.2 HCC.out
  have H4' := Aside0.mk H4
  clear H4
  go_wp2_with (first
    | ((with_reducible refine gate_dst (N := 20) rfl ?_); refine wpList_load_row rfl 40 (.tmp 19) rfl g rfl 40 C (0, 0) _ (by exact blk_alloc (blk_alloc HB.out _) _) Try.underlying40 rfl HZS.out ?_)
    | ((with_reducible refine gate_store (t := 40) (p := 4) (v := .tmp 20) rfl ?_); go_must (refine wpList_store_row rfl 40 (.tmp 4) (.tmp 20) rfl (w.heap.size + 1 + 1) C rfl rfl 40 _ (by exact third_new _ _ _ _) HZS.out (by exact HZ74.out) HONE.out ?_); go_must (rw [copy_block]); go_must (generalize hW : World.alloc _ (Obj.cells C 40) = W); go_must (have HS := Aside0.mk (H4'.out W hW)); clear hW; have cn2 := (HS.out.2.1.cell (p := ⟨g, 73, none⟩) HG.out).trans cn))
  clear c0 cn cn2 hlt hlt1
  obtain ⟨gE, hgE⟩ : ∃ x, w.heap.size + 1 + 1 = x := ⟨_, rfl⟩
  obtain ⟨p3, hp3⟩ : ∃ x, w.heap.size + 1 = x := ⟨_, rfl⟩
  obtain ⟨p2, hp2⟩ : ∃ x, w.heap.size = x := ⟨_, rfl⟩
  rw [hgE, hp3, hp2] at HS
  rw [hgE, hp3, hp2]
  clear hgE hp3 hp2 H4' HB HCC HZS HZ74 HONE
  refine (write1 HS.out 128 (by omega) _ (by have := HN.out; dsimp only; omega)).mono ?_
  rintro e w1 ⟨rfl, h1⟩
  obtain ⟨z, hz⟩ : ∃ z, (119 - n % 64) % 64 = z := ⟨_, rfl⟩
  have HZ := Aside0.mk hz
  have H1 := Aside0.mk h1
  clear h1 hz HS
  go_wp2_with (fail)
  go_loopg [] z (fun gk wx => gk ≤ z ∧ SInv w gE p2 p3 (List.foldl put (put (s, r, n) 128) (List.replicate (z - gk) 0)) wx)
  case atStart => exact ⟨Nat.le_refl _, by rw [Nat.sub_self]; exact H1.out⟩
  case round =>
    clear H1
    obtain ⟨hgk, hinv⟩ := hrel
    have HI := Aside0.mk hinv
    obtain ⟨stz, hst⟩ : ∃ y, List.foldl put (put (s, r, n) 128) (List.replicate (z - gk) 0) = y := ⟨_, rfl⟩
    have hnn : stz.2.2 = n + 1 + (z - gk) := by rw [← hst, puts_n, put_n, List.length_replicate]
    have HST := Aside0.mk hst
    rw [hst] at HI
    have hcn := HI.out.1.n_
    obtain ⟨q, hq⟩ : ∃ q, stz.2.2 % 64 = q := ⟨_, rfl⟩
    have hqi : ((stz.2.2 : Nat) : Int) % 64 = (q : Int) := by omega
    have hz := HZ.out
    have hN := HN.out
    have HQ := Aside0.mk hq
    have HNN := Aside0.mk hnn
    by_cases h56 : q = 56
    · have hbq : ((q : Int) == 56) = true := by simp; omega
      have hbn : ((q : Int) != 56) = false := by simp; omega
      have HGK := Aside0.mk (show z - gk = z by omega)
      clear hinv hst hnn hq h56 hz hN hgk
      have HA := Aside0.mk (show SInv w gE p2 p3 (List.foldl put stz ((sizeB (8 * n)).take 0)) wr from HI.out)
      have HBN := Aside0.mk (show stz.2.2 ≤ 1100000000000 by rw [HNN.out]; have := HZ.out; have := HN.out; omega)
      go_wp2_with (fail)
      clear hcn hqi hbq hbn HI
      go_loopw [6, 34] (fun _ i wx => ∃ k : Nat, k ≤ 8 ∧ i = .int .i64 k ∧ SInv w gE p2 p3 (List.foldl put stz ((sizeB (8 * n)).take k)) wx) (fun _ i _ => 8 - (intOf i).toNat)
      case atStart => exact ⟨0, by omega, rfl, HA.out⟩
      case round =>
        clear HA
        obtain ⟨k, hk, rfl, hinv⟩ := hrel
        have HI := Aside0.mk hinv
        by_cases hlt : k < 8
        · have h8 : k = 0 ∨ k = 1 ∨ k = 2 ∨ k = 3 ∨ k = 4 ∨ k = 5 ∨ k = 6 ∨ k = 7 := by omega
          clear hk hlt hinv
          rcases h8 with rfl | rfl | rfl | rfl | rfl | rfl | rfl | rfl
          · go_wp2_with (fail)
            refine (write1 HI.out _ (by omega) _ (by have := take_n stz (sizeB (8 * n)) 0; have := HBN.out; omega)).mono ?_
            rintro e w2 ⟨rfl, h2⟩
            rw [snoc_at (by rw [sizeB_len]; omega) (by show ((8 * n / 2 ^ (56 - 8 * 0) % 256 : Nat) : Int) = _; simp only [Nat.reduceMul, Nat.reduceSub, Nat.reducePow]; omega)] at h2
            have H2 := Aside0.mk h2
            clear h2
            go_wp2_with (fail)
            go_roundw
            case rel => exact ⟨1, by omega, rfl, H2.out⟩
            case measure => simp [intOf]
          · go_wp2_with (fail)
            refine (write1 HI.out _ (by omega) _ (by have := take_n stz (sizeB (8 * n)) 1; have := HBN.out; omega)).mono ?_
            rintro e w2 ⟨rfl, h2⟩
            rw [snoc_at (by rw [sizeB_len]; omega) (by show ((8 * n / 2 ^ (56 - 8 * 1) % 256 : Nat) : Int) = _; simp only [Nat.reduceMul, Nat.reduceSub, Nat.reducePow]; omega)] at h2
            have H2 := Aside0.mk h2
            clear h2
            go_wp2_with (fail)
            go_roundw
            case rel => exact ⟨2, by omega, rfl, H2.out⟩
            case measure => simp [intOf]
          · go_wp2_with (fail)
            refine (write1 HI.out _ (by omega) _ (by have := take_n stz (sizeB (8 * n)) 2; have := HBN.out; omega)).mono ?_
            rintro e w2 ⟨rfl, h2⟩
            rw [snoc_at (by rw [sizeB_len]; omega) (by show ((8 * n / 2 ^ (56 - 8 * 2) % 256 : Nat) : Int) = _; simp only [Nat.reduceMul, Nat.reduceSub, Nat.reducePow]; omega)] at h2
            have H2 := Aside0.mk h2
            clear h2
            go_wp2_with (fail)
            go_roundw
            case rel => exact ⟨3, by omega, rfl, H2.out⟩
            case measure => simp [intOf]
          · go_wp2_with (fail)
            refine (write1 HI.out _ (by omega) _ (by have := take_n stz (sizeB (8 * n)) 3; have := HBN.out; omega)).mono ?_
            rintro e w2 ⟨rfl, h2⟩
            rw [snoc_at (by rw [sizeB_len]; omega) (by show ((8 * n / 2 ^ (56 - 8 * 3) % 256 : Nat) : Int) = _; simp only [Nat.reduceMul, Nat.reduceSub, Nat.reducePow]; omega)] at h2
            have H2 := Aside0.mk h2
            clear h2
            go_wp2_with (fail)
            go_roundw
            case rel => exact ⟨4, by omega, rfl, H2.out⟩
            case measure => simp [intOf]
          · go_wp2_with (fail)
            refine (write1 HI.out _ (by omega) _ (by have := take_n stz (sizeB (8 * n)) 4; have := HBN.out; omega)).mono ?_
            rintro e w2 ⟨rfl, h2⟩
            rw [snoc_at (by rw [sizeB_len]; omega) (by show ((8 * n / 2 ^ (56 - 8 * 4) % 256 : Nat) : Int) = _; simp only [Nat.reduceMul, Nat.reduceSub, Nat.reducePow]; omega)] at h2
            have H2 := Aside0.mk h2
            clear h2
            go_wp2_with (fail)
            go_roundw
            case rel => exact ⟨5, by omega, rfl, H2.out⟩
            case measure => simp [intOf]
          · go_wp2_with (fail)
            refine (write1 HI.out _ (by omega) _ (by have := take_n stz (sizeB (8 * n)) 5; have := HBN.out; omega)).mono ?_
            rintro e w2 ⟨rfl, h2⟩
            rw [snoc_at (by rw [sizeB_len]; omega) (by show ((8 * n / 2 ^ (56 - 8 * 5) % 256 : Nat) : Int) = _; simp only [Nat.reduceMul, Nat.reduceSub, Nat.reducePow]; omega)] at h2
            have H2 := Aside0.mk h2
            clear h2
            go_wp2_with (fail)
            go_roundw
            case rel => exact ⟨6, by omega, rfl, H2.out⟩
            case measure => simp [intOf]
          · go_wp2_with (fail)
            refine (write1 HI.out _ (by omega) _ (by have := take_n stz (sizeB (8 * n)) 6; have := HBN.out; omega)).mono ?_
            rintro e w2 ⟨rfl, h2⟩
            rw [snoc_at (by rw [sizeB_len]; omega) (by show ((8 * n / 2 ^ (56 - 8 * 6) % 256 : Nat) : Int) = _; simp only [Nat.reduceMul, Nat.reduceSub, Nat.reducePow]; omega)] at h2
            have H2 := Aside0.mk h2
            clear h2
            go_wp2_with (fail)
            go_roundw
            case rel => exact ⟨7, by omega, rfl, H2.out⟩
            case measure => simp [intOf]
          · go_wp2_with (fail)
            refine (write1 HI.out _ (by omega) _ (by have := take_n stz (sizeB (8 * n)) 7; have := HBN.out; omega)).mono ?_
            rintro e w2 ⟨rfl, h2⟩
            rw [snoc_at (by rw [sizeB_len]; omega) (by show ((8 * n / 2 ^ (56 - 8 * 7) % 256 : Nat) : Int) = _; simp only [Nat.reduceMul, Nat.reduceSub, Nat.reducePow]; omega)] at h2
            have H2 := Aside0.mk h2
            clear h2
            go_wp2_with (fail)
            go_roundw
            case rel => exact ⟨8, by omega, rfl, H2.out⟩
            case measure => simp [intOf]
        · have HKE := Aside0.mk (show k = 8 by omega)
          have hge : 8 ≤ k := by omega
          have hdk : decide ((k : Int) < 8) = false := decide_eq_false (by omega)
          obtain ⟨stf, hstf⟩ : ∃ y, List.foldl put stz ((sizeB (8 * n)).take k) = y := ⟨_, rfl⟩
          have HSF := Aside0.mk (show stf = List.foldl put (s, r, n) (padB n) by
            rw [← hstf, HKE.out, ← HST.out, HGK.out, List.take_of_length_le (by rw [sizeB_len]; omega), ← HZ.out]
            rw [padB, List.foldl_cons, List.foldl_append])
          rw [hstf] at HI
          have HO := Aside0.mk (show OInv w gE p2 p3 stf 0 wr from ⟨HI.out.1, HI.out.2.1, HI.out.2.2.1, HI.out.2.2.2.1, HI.out.2.2.2.2.2.1, HI.out.2.2.2.2.2.2.1, HI.out.2.2.2.2.2.2.2.1, HI.out.2.2.2.2.2.2.2.2⟩)
          clear hinv hlt hk hstf HI
          go_wp2_with (fail)
          clear hge hdk
          go_loopw [7, 46] (fun _ i wx => ∃ m : Nat, m ≤ 32 ∧ i = .int .i64 m ∧ OInv w gE p2 p3 stf m wx) (fun _ i _ => 32 - (intOf i).toNat)
          case atStart => exact ⟨0, by omega, rfl, HO.out⟩
          case round =>
            clear HO
            obtain ⟨m, hm, rfl, hinv⟩ := hrel
            have HO := Aside0.mk hinv
            by_cases hlt : m < 32
            · obtain ⟨q, hq⟩ : ∃ q, m / 4 = q := ⟨_, rfl⟩
              have HQ := Aside0.mk hq
              have hc := hinv.1.state q (by omega)
              have hxr := hinv.1.2.2.2.2.1.at q
              have hcell : wr.cell? ⟨p3, m, none⟩ = some (.int .u8 ((outN stf.1 m).getD m 0)) := by
                rw [blk_cell hinv.2.2.2.1 m]
                simp [nums, List.getElem?_eq_getElem (show m < (outN stf.1 m).length by rw [outN_len]; omega), List.getD_eq_getElem?_getD]
              have hfree := blk_frozen hinv.2.2.2.1 m
              obtain ⟨x, hx⟩ : ∃ x, stf.1.getD q 0 = x := ⟨_, rfl⟩
              obtain ⟨old, hold⟩ : ∃ x, (outN stf.1 m).getD m 0 = x := ⟨_, rfl⟩
              rw [hx] at hc hxr
              rw [hold] at hcell
              have HX := Aside0.mk hx
              have x0 := hxr.1
              have x1 := hxr.2
              have hqi : (m : Int) / 4 = (q : Int) := by omega
              have q0 : (0 : Int) ≤ (q : Int) := by omega
              have q1 : (q : Int) < 8 := by omega
              have m0 : (0 : Int) ≤ (m : Int) := by omega
              have m1 : (m : Int) < 32 := by omega
              have hr4 : m % 4 = 0 ∨ m % 4 = 1 ∨ m % 4 = 2 ∨ m % 4 = 3 := by omega
              clear hinv hold hxr hq hx
              rcases hr4 with hr4 | hr4 | hr4 | hr4
              · have hri : (m : Int) % 4 = 0 := by omega
                have HR4 := Aside0.mk hr4
                clear hr4
                go_wp2
                go_roundw
                case rel => exact ⟨m + 1, by omega, by go_num, HO.out.next (by rw [HQ.out, HX.out, HR4.out]; simp only [Nat.reduceMul, Nat.reduceSub, Int.reducePow] <;> omega)⟩
                case measure => simp [intOf]; omega
              · have hri : (m : Int) % 4 = 1 := by omega
                have HR4 := Aside0.mk hr4
                clear hr4
                go_wp2
                go_roundw
                case rel => exact ⟨m + 1, by omega, by go_num, HO.out.next (by rw [HQ.out, HX.out, HR4.out]; simp only [Nat.reduceMul, Nat.reduceSub, Int.reducePow] <;> omega)⟩
                case measure => simp [intOf]; omega
              · have hri : (m : Int) % 4 = 2 := by omega
                have HR4 := Aside0.mk hr4
                clear hr4
                go_wp2
                go_roundw
                case rel => exact ⟨m + 1, by omega, by go_num, HO.out.next (by rw [HQ.out, HX.out, HR4.out]; simp only [Nat.reduceMul, Nat.reduceSub, Int.reducePow] <;> omega)⟩
                case measure => simp [intOf]; omega
              · have hri : (m : Int) % 4 = 3 := by omega
                have HR4 := Aside0.mk hr4
                clear hr4
                go_wp2
                go_roundw
                case rel => exact ⟨m + 1, by omega, by go_num, HO.out.next (by rw [HQ.out, HX.out, HR4.out]; simp only [Nat.reduceMul, Nat.reduceSub, Int.reducePow] <;> omega)⟩
                case measure => simp [intOf]; omega
            · have HM := Aside0.mk (show m = 32 by omega)
              have hge : 32 ≤ m := by omega
              obtain ⟨D, hD⟩ : ∃ D, (nums .u8 (outN stf.1 m)).toArray = D := ⟨_, rfl⟩
              obtain ⟨Z, hZ⟩ : ∃ Z, (nums .u8 (List.replicate 32 0)).toArray = Z := ⟨_, rfl⟩
              have h3 := hinv.2.2.2.1
              have h2 := hinv.2.2.1
              rw [hD] at h3
              rw [hZ] at h2
              have H3 := Aside0.mk h3
              have H2 := Aside0.mk h2
              have hds : D.size = 32 := by rw [← hD]; simp [nums, outN_len]
              have hzs : Z.size = D.size := by rw [hds, ← hZ]; simp [nums]
              have HI := Aside0.mk (show (Try.prog.info? 24).map (·.size) = some D.size by rw [hds]; exact info_32)
              have HZS := Aside0.mk hzs
              have HONE := Aside0.mk (show D.all (·.oneCell') = true by rw [← hD]; exact nums_one _ _)
              have HBL := Aside0.mk (And.intro hinv.2.1 hinv.2.2.2.2.2.2.1)
              have HFIN := Aside0.mk (show D = (nums .u8 (sumB (s, r, n))).toArray by rw [← hD, HM.out, sumB, ← HSF.out]; rfl)
              clear hD hZ h3 h2 hds hzs hlt hm hinv
              go_wp2_with (first
                | ((with_reducible refine gate_dst (N := 63) rfl ?_); refine wpList_load_row rfl 24 (.tmp 3) rfl p3 rfl 24 D (0, 0) _ H3.out Try.underlying24 rfl HI.out ?_)
                | ((with_reducible refine gate_store (t := 24) (p := 2) (v := .tmp 63) rfl ?_); refine wpList_store_row rfl 24 (.tmp 2) (.tmp 63) rfl p2 D rfl rfl 24 Z H2.out HI.out HZS.out HONE.out ?_))
              have HSR := setRow_heap wr p2 Z D _ _ H2.out
              refine bodyPost_ret (v := .agg D) (results_cell_row rfl _ _ p2 24 D (0, 0) _ rfl HSR Try.underlying24 rfl HI.out) rfl ⟨by rw [HFIN.out], below_setRow HBL.out.1 HBL.out.2 D⟩
    · have hbq : ((q : Int) == 56) = false := by simp; omega
      have hbn : ((q : Int) != 56) = true := by simp; omega
      have HGK := Aside0.mk (show 0 < gk by omega)
      have HB := Aside0.mk (show stz.2.2 ≤ 2000000000000 by omega)
      have HGZ := Aside0.mk hgk
      clear hinv hst hnn hq h56 hz hN hgk
      go_wp2_with (fail)
      refine (write1 HI.out 0 (by omega) _ HB.out).mono ?_
      rintro e w2 ⟨rfl, h2⟩
      have H2 := Aside0.mk h2
      clear h2 hcn
      go_wp2_with (fail)
      go_roundg (gk - 1)
      case measure => have := HGK.out; omega
      case rel =>
        refine ⟨by have := HGZ.out; omega, ?_⟩
        rw [show z - (gk - 1) = (z - gk) + 1 from by have := HGZ.out; have := HGK.out; omega, List.replicate_succ', List.foldl_append, HST.out]
        exact H2.out
end Go.Proofs.Ytbebkogkeepfoaa.Sha
