/- Own and printed texts, laid together. -/
import Derived.Test.YtfpkgdenohcglaaChWD
import Derived.Test.YtfpkgdenohcglaaChWC
import Derived.Test.YtfpkgdenohcglaaChWB
/- chain.Get walked: which chain bytes are (printed by gen_chnget.py). -/
namespace Go.Proofs.Ytfpkgdenohcglaa.Chn
set_option linter.unusedVariables false
set_option linter.unusedSimpArgs false
open Go.RowKit Go.Proofs.Ytfpkgdenohcglaa.Lo Go.Proofs.Ytfpkgdenohcglaa.RdPlain Go.Proofs.Ytfpkgdenohcglaa.Base Go.Proofs.Ytfpkgdenohcglaa.TlvPlain Go.Proofs.Ytfpkgdenohcglaa.ShaPlain Go.Proofs.Ytfpkgdenohcglaa.Sha Go.Proofs.Ytfpkgdenohcglaa.Com Go.Proofs.Ytfpkgdenohcglaa.Aid Go.Proofs.YtfpkgdenohcglaaW.PrintWords Go.Proofs.YtfpkgdenohcglaaW.PrintLast Go.Proofs.YtfpkgdenohcglaaW.PrintMore
open Tlv (RdO takeO_ okO numO_ textO_ leftO_ newO)
attribute [local irreducible] shaB
theorem ent_mkM {W : World} {base : Nat} {ok : Nat → Prop} {x : Ent} {P C : List Value} {A : Option Addr} {c : Nat} (hP : SumC P (prevE x)) (hC : SumC C (comE x)) (hO : Kd.R (Kd.int .u8) 5 W base ok (.slice A (payE x).length c) (payE x)) : DEnt.M W base ok x (cE x P C A c) := by
  have hp : KS.M W base ok (prevE x) P := by rw [← hP.eq]; exact Kd.arr_of_cells hP.len
  have hq : KS.M W base ok (comE x) C := by rw [← hC.eq]; exact Kd.arr_of_cells hC.len
  exact ⟨[Value.int .i64 x.1], _, rfl, rfl, P, _, rfl, hp, C, _, rfl, hq, [Value.int .u64 x.2.2.2.1], _, rfl, rfl, [Value.slice A x.2.2.2.2.1.length c], [Value.bool x.2.2.2.2.2], rfl, ⟨_, rfl, hO⟩, rfl⟩
theorem info_entZ : (Try.prog.info? 27).map (fun i => (i.zero, i.size, i.bytes)) = some (some (.agg Try.zeroCells27), DEnt.sz, 112) := by kernel_rfl
abbrev Rg (w : World) (base : Nat) (v : Value) (l : List Ent) : Prop := Kd.R DEnt 27 w base (fun _ => True) v l
theorem Rg.reads {w : World} {base : Nat} {v : Value} {l : List Ent} (h : Rg w base v l) : ∃ A c, v = .slice A l.length c ∧ l.length ≤ c ∧ Re w A l := by
  obtain ⟨A, c, e, hc, hr⟩ := Kd.R_reads h
  exact ⟨A, c, e, hc, hr⟩
abbrev RetG (w : World) (r : List Ent × Int) : Ending → World → Prop := fun e w' => ∃ v, e = .returned (.tuple #[v, .int .i64 r.2]) ∧ Rg w' w.heap.size v r.1 ∧ Below w.heap.size w w'
theorem take_len {st : Option (List Int)} {n : Int} {r : List Int} (h : (takeO st n).2 = some r) : ∃ b, st = some b ∧ (r.length : Int) + n = b.length ∧ 0 ≤ n := by
  unfold takeO at h
  split at h
  · next b =>
    split at h
    · next hc =>
      simp only [Option.some.injEq] at h
      subst h
      exact ⟨b, rfl, by rw [List.length_drop]; omega, hc.1⟩
    · cases h
  · cases h
theorem num_len {st : Option (List Int)} {r : List Int} (h : (numO st).2 = some r) : ∃ b, st = some b ∧ r.length ≤ b.length := by
  unfold numO at h
  split at h
  · next x b =>
    split at h
    · cases h
    · split at h
      · cases h
      · split at h
        · cases h
        · simp only [Option.some.injEq] at h
          subst h
          exact ⟨_, rfl, by rw [List.length_drop, List.length_cons]; omega⟩
  · cases h
theorem text_len {st : Option (List Int)} {m : Int} {r : List Int} (h : (textO st m).2 = some r) : ∃ b, st = some b ∧ r.length ≤ b.length := by
  unfold textO at h
  obtain ⟨b1, h1, h2, h3⟩ := take_len h
  unfold countO at h1 h2 h3
  split at h1
  · cases h1
  · next hc =>
    rw [if_neg hc] at h2 h3
    obtain ⟨b, h4, h5⟩ := num_len h1
    exact ⟨b, h4, by omega⟩
theorem rd_len {b r : List Int} (h : (rdE (some b)).st = some r) : r.length < b.length := by
  obtain ⟨b1, h1, h2⟩ := text_len h
  obtain ⟨b2, h3, h4⟩ := num_len h1
  obtain ⟨b3, h5, h6, _⟩ := take_len (show (takeO (takeO (some b) 1).2 32).2 = some b2 from h3)
  obtain ⟨b4, h7, h8, _⟩ := take_len h5
  injection h7 with h7
  subst h7
  omega
theorem read_some {st : Option (List Int)} {sq : Int} {pv : Sm} {x : Ent} {r : List Int} (h : readE st sq pv = some (x, r)) : x = entR st sq pv ∧ rightT x = true ∧ (rdE st).st = some r := by
  unfold readE at h
  split at h
  · cases h
  · next r' hr =>
    split at h
    · cases h
    · split at h
      · next h1 =>
        simp only [Option.some.injEq, Prod.mk.injEq] at h
        obtain ⟨rfl, rfl⟩ := h
        exact ⟨rfl, h1, hr⟩
      · cases h
theorem getN_no {n : Nat} {bs : List Int} {l : List Ent} (h : 32 < bs.length) (hn : bs.length ≤ n) (hr : readE (some bs) (l.length : Int) (headT l) = none) : getN n bs l = ([], 2) := by
  cases n with
  | zero => omega
  | succ n => rw [getN, if_pos h, hr]
theorem getN_many {n : Nat} {bs r : List Int} {l : List Ent} {x : Ent} (h : 32 < bs.length) (hn : bs.length ≤ n) (hr : readE (some bs) (l.length : Int) (headT l) = some (x, r)) (h120 : 120 ≤ l.length) : getN n bs l = ([], 2) := by
  cases n with
  | zero => omega
  | succ n => rw [getN, if_pos h, hr]; dsimp only; rw [if_pos h120]
theorem getN_next {n : Nat} {bs r : List Int} {l : List Ent} {x : Ent} (h : 32 < bs.length) (hr : readE (some bs) (l.length : Int) (headT l) = some (x, r)) (h120 : ¬ 120 ≤ l.length) : getN (n + 1) bs l = getN n r (l ++ [x]) := by
  rw [getN, if_pos h, hr]; dsimp only; rw [if_neg h120]
theorem getN_fin {n : Nat} {bs : List Int} {l : List Ent} (h : ¬ 32 < bs.length) : getN n bs l = finC bs l := by
  cases n with
  | zero => rfl
  | succ n => rw [getN, if_neg h]
/-- What the loop of Get keeps. -/
structure GetI (w : World) (g h : Nat) (b : List Int) (n : Nat) (bs : List Int) (l : List Ent) (v : Value) (W : World) : Prop where
  rd : RdO w W g (some bs)
  bl : Below w.heap.size w W
  hd : W.heap[h]? = some (.cells (nums .u8 (headT l)).toArray 23 (0, 0))
  row : Rg W (h + 1) v l
  u : Lu' l
  p : ∀ x ∈ l, (payE x).length ≤ 100
  len : l.length ≤ 120
  fu : bs.length ≤ n
  eq : getN n bs l = getC b
/-- A round more. -/
theorem GetI.next {w : World} {g h : Nat} {b : List Int} {n : Nat} {bs r : List Int} {l : List Ent} {x : Ent} {v v' : Value} {W W' : World} (H : GetI w g h b (n + 1) bs l v W) (h32 : 32 < bs.length) (hr : readE (some bs) (l.length : Int) (headT l) = some (x, r)) (h120 : ¬ 120 ≤ l.length)
    (hrd : RdO w W' g (some r)) (hbl : Below w.heap.size w W') (hhd : W'.heap[h]? = some (.cells (nums .u8 (linkT x)).toArray 23 (0, 0))) (hrow : Rg W' (h + 1) v' (l ++ [x])) (hx : Eu x) (hp : (payE x).length ≤ 100) : GetI w g h b n r (l ++ [x]) v' W' := by
  refine ⟨hrd, hbl, by rw [headT_snoc]; exact hhd, hrow, ?_, ?_, by rw [List.length_append, List.length_singleton]; omega, ?_, ?_⟩
  · intro y hy
    rcases List.mem_append.1 hy with hy | hy
    · exact H.u y hy
    · rw [List.mem_singleton.1 hy]; exact hx
  · intro y hy
    rcases List.mem_append.1 hy with hy | hy
    · exact H.p y hy
    · rw [List.mem_singleton.1 hy]; exact hp
  · have h1 := rd_len (read_some hr).2.2
    have h2 := H.fu
    omega
  · rw [← getN_next h32 hr h120]; exact H.eq
set_option maxHeartbeats 8000000 in
set_option maxRecDepth 100000 in
theorem get_c (w : World) (A : Option Addr) (c : Nat) (b : List Int) (hr : Rb w A b) (hc : b.length ≤ c) (hl : b.length < 100000000) (hu : U8 b) :
    Calls Try.prog 26 #[.slice A b.length c] w (RetG w (getC b)) := by
  have HNEW := Aside0.mk (newO A c b w hr hc (by omega) hu)
  clear hr hc hl hu
  go_enter Try.func26, Try.ntmps26
  go_wp2_with (fail)
  refine HNEW.out.mono ?_
  rintro e w1 ⟨g, rfl, hs, hb⟩
  have hgl := hs.blk.2.1
  have H0 := Aside0.mk (show GetI w g w1.heap.size b b.length b [] (.slice none 0 0) (w1.alloc (.cells Z32 23)) from
    ⟨hs.below (below_alloc (Below.refl _ _) _), below_alloc hb _, blk_new _ _, Kd.R_nil _ _ _ _ _, (fun _ h => by cases h), (fun _ h => by cases h), Nat.zero_le _, Nat.le_refl _, rfl⟩)
  have HGH := Aside0.mk (show g < w1.heap.size from hgl)
  have HWH := Aside0.mk (show w.heap.size ≤ w1.heap.size from hb.size)
  have HU8 := Aside0.mk (fun (W : World) (bs : List Int) (h : RdO w W g (some bs)) => h.u8.1)
  clear hs hb hgl HNEW
  go_upto_region 4 with (fail)
  obtain ⟨W0, hW0⟩ : ∃ V, w1.alloc (.cells Z32 23) = V := ⟨_, rfl⟩
  obtain ⟨h, hh⟩ : ∃ V, w1.heap.size = V := ⟨_, rfl⟩
  rw [hW0, hh] at H0
  rw [hh] at HGH HWH
  rw [show w1.alloc (.cells #[.int .u8 0, .int .u8 0, .int .u8 0, .int .u8 0, .int .u8 0, .int .u8 0, .int .u8 0, .int .u8 0, .int .u8 0, .int .u8 0, .int .u8 0, .int .u8 0, .int .u8 0, .int .u8 0, .int .u8 0, .int .u8 0, .int .u8 0, .int .u8 0, .int .u8 0, .int .u8 0, .int .u8 0, .int .u8 0, .int .u8 0, .int .u8 0, .int .u8 0, .int .u8 0, .int .u8 0, .int .u8 0, .int .u8 0, .int .u8 0, .int .u8 0, .int .u8 0] 23) = W0 from hW0, hh]
  clear hW0 hh
  go_loopg [5, 7, 8] b.length (fun gf v _ _ wx => ∃ (n : Nat) (bs : List Int) (l : List Ent), n = gf ∧ Aside0 (GetI w g h b n bs l v wx))
  case atStart => exact ⟨b.length, b, [], rfl, H0⟩
  case round =>
    clear H0
    obtain ⟨n, bs, l, hn, HI⟩ := hrel
    have HQ := Aside0.mk hn
    clear hn
    obtain ⟨W, hwy⟩ : ∃ wy, wy = wr := ⟨_, rfl⟩
    subst hwy
    obtain ⟨AL, cL, rfl⟩ := Kd.R_slice HI.out.row
    obtain ⟨D, hD⟩ := sumC (headT l) (headT_len _)
    have HDI := Aside0.mk hD.blk
    have HD := Aside0.mk hD
    have HA := Aside0.mk (show AtC W ⟨h, 0, none⟩ D from by rw [← hD.eq]; exact atC_blk HI.out.hd)
    have hu24 := Try.underlying23
    have hu27 := Try.underlying27
    have q2 : (l.length : Int) ≤ 120 := by have := HI.out.len; omega
    clear hD
    have HLEFT := Aside0.mk (leftO_ w W g (some bs) HI.out.rd)
    go_wp2_with (fail)
    refine HLEFT.out.mono ?_
    rintro e w2 ⟨rfl, rfl⟩
    clear HLEFT
    by_cases h32 : 32 < bs.length
    · have H32 := Aside0.mk h32
      have q0 : (32 : Int) < leftO (some bs) := by simp only [leftO]; omega
      have q1 : decide ((32 : Int) < leftO (some bs)) = true := decide_eq_true q0
      have hrc := read_c w W g (some bs) HI.out.rd HI.out.bl (fun _ e => by cases e; exact HU8.out W bs HI.out.rd) (l.length : Int) (headT l) (headT_len _) (headT_u8 _)
      rw [HD.out.v] at hrc
      cases hre : readE (some bs) (l.length : Int) (headT l) with
      | none =>
        rw [hre] at hrc
        have HRC := Aside0.mk hrc
        have HE := Aside0.mk (show getC b = ([], 2) from by rw [← HI.out.eq, getN_no h32 HI.out.fu hre])
        clear hrc hre h32
        go_wp2_with ((with_reducible refine gate_dst (N := 18) rfl ?_); refine wpList_load_at rfl 23 (.tmp 6) rfl ⟨h, 0, none⟩ rfl D _ HA.out Try.underlying23 rfl HDI.out ?_)
        refine HRC.out.mono ?_
        rintro e w3 ⟨X, st', rfl, hXl, hX1, hl⟩
        have HX := Aside0.mk (And.intro hXl hX1)
        have HB3 := Aside0.mk hl.2.1
        have HY := Aside0.mk (show (w3.alloc (.cells zE.toArray 27)).heap[w3.heap.size]? = some (.cells zE.toArray 27 (0, 0)) from blk_new _ _)
        clear hXl hX1 hl
        go_wp2_with ((with_reducible refine gate_store (t := 27) (p := 7) (v := .tmp 20) rfl ?_); refine wpList_store_row rfl 27 (.tmp 7) (.tmp 20) rfl w3.heap.size X.toArray rfl rfl 27 zE.toArray HY.out (by rw [List.size_toArray, HX.out.1]; exact info_ent) (by rw [List.size_toArray, List.size_toArray, zE_len, HX.out.1]) HX.out.2 ?_)
        go_ret2
        refine ⟨.slice none 0 0, by rw [HE.out]; first | done | rfl, ?_, below_setRow (below_alloc HB3.out _) HB3.out.size _⟩
        rw [HE.out]
        exact Kd.R_nil _ _ _ _ _
      | some p =>
        obtain ⟨x, r⟩ := p
        rw [hre] at hrc
        have HRC := Aside0.mk hrc
        have HRE := Aside0.mk hre
        have hxr := read_some hre
        have hru := rd_u8 (st := some bs) (fun _ e => by cases e; exact HU8.out W bs HI.out.rd)
        have hEu : Eu x := by rw [hxr.1]; exact entR_eu (fun _ e => by cases e; exact HU8.out W bs HI.out.rd) (headT_len _) (headT_u8 _)
        have HXP := Aside0.mk (show (payE x).length ≤ 100 from by rw [hxr.1]; exact hru.2.2.2.2.1)
        have HEU := Aside0.mk hEu
        clear hrc hre hxr hru hEu
        go_wp2_with ((with_reducible refine gate_dst (N := 18) rfl ?_); refine wpList_load_at rfl 23 (.tmp 6) rfl ⟨h, 0, none⟩ rfl D _ HA.out Try.underlying23 rfl HDI.out ?_)
        refine HRC.out.mono ?_
        rintro e w3 ⟨P, C, AY, cY, rfl, hC, hO, hl⟩
        have HC3 := Aside0.mk hC
        have HY3 := Aside0.mk hO
        have HL3 := Aside0.mk hl
        have HN3 := Aside0.mk (show ∀ k, some k = (Value.slice AL l.length cL).ownBlock → k < W.heap.size from fun k e => Kd.R_lt HI.out.row k e.symm)
        have HR3 := Aside0.mk (Kd.R_mono (Kd.R_keep (Kd.R_bound HI.out.row) hl.2.2 (fun k hk => by have := hk.2.1; have := HGH.out; omega)) (fun _ _ => trivial) : Rg w3 (h + 1) (.slice AL l.length cL) l)
        have HD3 := Aside0.mk (hl.2.2.blk HI.out.hd (by have := HGH.out; omega) (by simp))
        clear hC hO hl
        have HIE := Aside0.mk HC3.out.info
        have HXL := Aside0.mk HC3.out.len
        have HX1 := Aside0.mk HC3.out.one
        have HXM := Aside0.mk (fun (V : World) (base : Nat) (ok : Nat → Prop) (hO : Kd.R (Kd.int .u8) 5 V base ok (.slice AY (payE x).length cY) (payE x)) => ent_mkM (x := x) HC3.out.fp HC3.out.fc hO)
        have HLK := Aside0.mk (fun (V : World) (hr : Rb V AY (payE x)) => link1_c x HEU.out P C AY cY V ⟨HC3.out.fp, HC3.out.fc, HC3.out.hc, hr⟩)
        obtain ⟨L, hL⟩ := sumC (linkT x) (linkT_len x)
        unfold Ret at HLK
        rw [hL.v] at HLK
        have HLL := Aside0.mk hL
        clear hL
        obtain ⟨X, hX⟩ : ∃ t, cE x P C AY cY = t := ⟨_, rfl⟩
        rw [hX] at HIE HXL HX1 HXM HLK
        rw [show (cE x P C AY cY).toArray = X.toArray from by rw [hX]]
        clear hX
        have HY := Aside0.mk (show (w3.alloc (.cells zE.toArray 27)).heap[w3.heap.size]? = some (.cells zE.toArray 27 (0, 0)) from blk_new _ _)
        have HB5 := Aside0.mk (show Below w3.heap.size w3 ((w3.alloc (.cells zE.toArray 27)).setRow w3.heap.size X.toArray) from below_setRow (below_alloc (Below.refl _ _) _) (Nat.le_refl _) _)
        have HX5 := Aside0.mk (atC_blk (setRow_heap (w3.alloc (.cells zE.toArray 27)) w3.heap.size zE.toArray X.toArray _ _ HY.out))
        go_upto_region 6 with ((with_reducible refine gate_store (t := 27) (p := 7) (v := .tmp 20) rfl ?_); refine wpList_store_row rfl 27 (.tmp 7) (.tmp 20) rfl w3.heap.size X.toArray rfl rfl 27 zE.toArray HY.out (by rw [List.size_toArray]; exact HIE.out) (by rw [List.size_toArray, List.size_toArray, zE_len, HXL.out]) HX1.out ?_)
        obtain ⟨w5, hw5⟩ : ∃ V, (w3.alloc (.cells zE.toArray 27)).setRow w3.heap.size X.toArray = V := ⟨_, rfl⟩
        rw [hw5] at HB5 HX5
        rw [show (w3.alloc (.cells Try.zeroCells27 27)).setRow w3.heap.size X.toArray = w5 from hw5]
        clear hw5 HY
        have HL5 := Aside0.mk (left_below HL3.out HB5.out)
        have HR5 := Aside0.mk (Kd.R_below HR3.out HB5.out : Rg w5 (h + 1) (.slice AL l.length cL) l)
        have HY5 := Aside0.mk (Kd.R_below HY3.out HB5.out)
        have HD5 := Aside0.mk (blk_below HD3.out HB5.out)
        have HG7 := Aside0.mk (show W.heap.size ≤ w3.heap.size from HL3.out.2.2.1)
        obtain ⟨g7, hg7⟩ : ∃ V, w3.heap.size = V := ⟨_, rfl⟩
        rw [hg7] at HX5 HG7
        rw [hg7]
        clear hg7
        by_cases h120 : 120 ≤ l.length
        · have q3 : decide ((120 : Int) ≤ (l.length : Int)) = true := decide_eq_true (by omega)
          have q4 : decide (120 ≤ l.length) = true := decide_eq_true h120
          have HE := Aside0.mk (show getC b = ([], 2) from by rw [← HI.out.eq, getN_many H32.out HI.out.fu HRE.out h120])
          clear h120
          go_wp2_with (fail)
          go_ret2
          refine ⟨.slice none 0 0, by rw [HE.out]; first | done | rfl, ?_, HL5.out.2.1⟩
          rw [HE.out]
          exact Kd.R_nil _ _ _ _ _
        · have q3 : decide ((120 : Int) ≤ (l.length : Int)) = false := decide_eq_false (by omega)
          have q4 : decide (120 ≤ l.length) = false := decide_eq_false h120
          have H120 := Aside0.mk h120
          clear h120
          have HM5 := Aside0.mk (HXM.out w5 (h + 1) (fun k => W.heap.size ≤ k) (Kd.R_lower (Kd.R_mono (Kd.R_bound HY5.out) (fun k hk => hk.2.1)) (show h + 1 ≤ W.heap.size from blk_lt HI.out.hd)))
          go_upto_region 9 with (first
            | ((with_reducible refine gate_dst (N := 30) rfl ?_); refine wpList_load_at rfl 27 (.tmp 7) rfl ⟨g7, 0, none⟩ rfl X _ HX5.out Try.underlying27 rfl HIE.out ?_)
            | ((with_reducible refine gate_dst (N := 31) rfl ?_); refine wpList_ent1 rfl (.tmp 30) rfl X rfl HXL.out ?_)
            | ((with_reducible refine gate_builtin (b := .append) (xs := #[.tmp 29, .tmp 31]) rfl ?_); at_builtin; refine Kd.R_append DEnt (w0 := w5) (h + 1) rfl (.tmp 29) (.tmp 31) 22 27 (.agg Try.zeroCells27) 112 rfl Try.underlying22 info_entZ rfl (by decide) (by decide) _ l x X (fun _ => True) (fun k => W.heap.size ≤ k) rfl rfl HM5.out (fun k hk => ⟨trivial, fun e => by have := HN3.out k e; omega⟩) (fun _ _ => trivial) HR5.out (Below.refl _ _) (by have := blk_lt HD5.out; omega) (by have := HI.out.len; omega) ?_; intro v6 w6 ho hb hg hat; have HR6 := Aside0.mk (show Rg w6 (h + 1) v6 (l ++ [x]) from ho); have HB6 := Aside0.mk hb; have HG6 := Aside0.mk (show w5.grownBy w6 (Value.slice AL l.length cL).ownBlock from hg); clear ho hb hg hat))
          obtain ⟨A6, c6, rfl⟩ := Kd.R_slice HR6.out
          have HRD6 := Aside0.mk (show RdO w w6 g (some r) from HL5.out.1.grown HG6.out (fun b e => by have := Kd.R_base HR5.out b e; have := HGH.out; omega))
          have HBL6 := Aside0.mk (show Below w.heap.size w w6 from HL5.out.2.1.trans (HB6.out.mono (by have := HWH.out; omega)))
          have HD6 := Aside0.mk ((HB6.out.block h (Nat.lt_succ_self h)).trans HD5.out)
          have HY6 := Aside0.mk (Kd.R_grown (Kd.R_mono (Kd.R_bound HY5.out) (ok' := fun k => W.heap.size ≤ k) (fun k hk => hk.2.1)) HG6.out (fun k hk e => by have := HN3.out k e; omega))
          have HX6 := Aside0.mk (show AtC w6 ⟨g7, 0, none⟩ X from fun j v hj => by
            have h1 := HX5.out j v hj
            exact (World.grownBy.cell_far HG6.out _ (World.block_lt_of_cell? _ _ h1) (fun e => by rw [add_block] at e; have := HN3.out g7 e; have := HG7.out; omega)).trans h1)
          go_wp2_with ((with_reducible refine gate_dst (N := 33) rfl ?_); refine wpList_load_at rfl 27 (.tmp 7) rfl ⟨g7, 0, none⟩ rfl X _ HX6.out Try.underlying27 rfl HIE.out ?_)
          refine (HLK.out _ (Kd.R_reads' HY6.out).2.2).mono ?_
          rintro e w7 ⟨rfl, hb⟩
          have HRD7 := Aside0.mk (HRD6.out.below hb)
          have HBL7 := Aside0.mk (below_step HBL6.out hb)
          have HD7 := Aside0.mk (blk_below HD6.out hb)
          have HR7 := Aside0.mk (Kd.R_below HR6.out hb : Rg w7 (h + 1) _ (l ++ [x]))
          clear hb
          rw [HD.out.eq] at HD7
          go_wp2_with ((with_reducible refine gate_store (t := 23) (p := 6) (v := .tmp 34) rfl ?_); refine wpList_store_row rfl 23 (.tmp 6) (.tmp 34) rfl h L.toArray rfl rfl 23 D.toArray HD7.out HLL.out.blkA (by rw [List.size_toArray, List.size_toArray, HD.out.lenC, HLL.out.lenC]) HLL.out.oneA ?_)
          obtain ⟨n', hn'⟩ : ∃ k, n = k + 1 := ⟨n - 1, by have := HI.out.fu; have := H32.out; omega⟩
          subst hn'
          have hg := grown_setRow w7 h L.toArray
          have HI2 := Aside0.mk (HI.out.next H32.out HRE.out H120.out (HRD7.out.grown hg (fun b e => by injection e with e; have := HGH.out; omega)) (below_setRow HBL7.out HWH.out L.toArray)
            (by rw [HLL.out.eq]; exact setRow_heap _ _ D.toArray L.toArray _ _ HD7.out)
            (Kd.R_mono (Kd.R_grown (Kd.R_bound HR7.out) hg (fun k hk e => by injection e with e; have := hk.2.1; omega)) (fun _ _ => trivial)) HEU.out HXP.out)
          clear hg
          go_roundg n'
          case measure => have := HQ.out; omega
          case rel => exact ⟨n', r, l ++ [x], rfl, ⟨by have h := HI2.out; rw [show (l ++ [x]).length = l.length + 1 from by simp] at h; exact h⟩⟩
    · have q0 : ¬ (32 : Int) < leftO (some bs) := by simp only [leftO]; omega
      have q1 : decide ((32 : Int) < leftO (some bs)) = false := decide_eq_false q0
      have HSM := Aside0.mk (fun V (hV : Below W.heap.size W V) => sum_c w V g (some bs) (HI.out.rd.below hV) (below_step HI.out.bl hV))
      have HGC := Aside0.mk (show getC b = finC bs l from by rw [← HI.out.eq, getN_fin h32])
      have HROW := Aside0.mk HI.out.row
      have HAV := Aside0.mk (fun V (hV : Below W.heap.size W V) => HA.out.below hV)
      have HNE := Aside0.mk (show (⟨h, 0, none⟩ : Addr).block ≠ g from by have := HGH.out; dsimp only; omega)
      have hguard := guard_32
      by_cases hb32 : bs.length = 32
      · have hso : sumO (some bs) = (bs, some []) := by
          have := sumO_app (d := bs) (r := []) hb32
          rwa [List.append_nil] at this
        obtain ⟨BS, hBS⟩ := sumC bs hb32
        rw [hso, hBS.v] at HSM
        have HEQ := Aside0.mk (run_eq_sum bs (headT l) hb32 (headT_len _))
        rw [hBS.v, HD.out.v] at HEQ
        obtain ⟨eb, heb⟩ : ∃ t, decide (bs = headT l) = t := ⟨_, rfl⟩
        rw [heb] at HEQ
        cases eb with
        | true =>
          have HE := Aside0.mk (show getC b = (l, 0) from by rw [HGC.out]; unfold finC; rw [if_pos ⟨hb32, of_decide_eq_true heb⟩])
          clear hso hBS heb hb32 h32
          go_wp2_with (fail)
          refine wp_region_held_drew (S := fun V => AtC V ⟨h, 0, none⟩ D) (by kernel_rfl) (HAV.out _ (below_drew1 (Below.refl _ _))) (fun hHeld => ?_)
          (refine wpAnyH_take (i := 0) (v := ?_) rfl (by kernel_rfl) (by kernel_rfl) (by kernel_rfl) (fun _ _ _ h => h) (Or.inl ⟨by rfl, ?_⟩) (by assumption) ?_; (case' refine_2 => (intro w hSw; go_simp; try with_reducible rfl)); (try simp only [Act.put, List.getElem_toArray, List.getElem_cons_zero, List.getElem_cons_succ, List.setIfInBounds_toArray, List.set_cons_zero, List.set_cons_succ]))
          (refine wpAnyH_take (i := 2) rfl (by kernel_rfl) (by kernel_rfl) (by kernel_rfl) (fun _ _ _ h => h) (yieldsIf_load_at (by rfl) _ _ rfl ⟨h, 0, none⟩ rfl D _ (fun _ h => h) (by assumption) rfl HDI.out) (by assumption) ?_; (try simp only [Act.put, List.getElem_toArray, List.getElem_cons_zero, List.getElem_cons_succ, List.setIfInBounds_toArray, List.set_cons_zero, List.set_cons_succ]))
          (refine wpAnyH_ready (rs := [1]) (by kernel_rfl) (by simp) (AllReadyH.cons rfl (fun K hK => ?_) AllReadyH.nil); go_simp)
          refine (HSM.out _ (below_drew1 (Below.refl _ _))).mono ?_
          rintro e w3 ⟨rfl, hl⟩
          have HL3 := Aside0.mk hl
          have HA3 := Aside0.mk (atC_step (HAV.out _ (below_drew1 (Below.refl _ _))) hl.2.2 HNE.out)
          have HR3 := Aside0.mk (Kd.R_keep (Kd.R_bound (Kd.R_drew HROW.out)) hl.2.2 (fun k hk => by have := hk.2.1; have := HGH.out; omega))
          clear hl
          (refine Shut.out hK _ _ HA3.out (fun hHeld => ?_); clear hK K; (try simp only [Act.put, List.getElem_toArray, List.getElem_cons_zero, List.getElem_cons_succ, List.setIfInBounds_toArray, List.set_cons_zero, List.set_cons_succ]))
          have heq := HEQ.out
          (refine wpAnyH_take (i := 3) (v := ?_) rfl (by kernel_rfl) (by kernel_rfl) (by kernel_rfl) (fun _ _ _ h => h) (Or.inl ⟨by rfl, ?_⟩) (by assumption) ?_; (case' refine_2 => (intro w hSw; go_simp; try with_reducible rfl)); (try simp only [Act.put, List.getElem_toArray, List.getElem_cons_zero, List.getElem_cons_succ, List.setIfInBounds_toArray, List.set_cons_zero, List.set_cons_succ]))
          (refine wpAnyH_take (i := 4) (v := ?_) rfl (by kernel_rfl) (by kernel_rfl) (by kernel_rfl) (fun _ _ _ h => h) (Or.inl ⟨by rfl, ?_⟩) (by assumption) ?_; (case' refine_2 => (intro w hSw; go_simp; try with_reducible rfl)); (try simp only [Act.put, List.getElem_toArray, List.getElem_cons_zero, List.getElem_cons_succ, List.setIfInBounds_toArray, List.set_cons_zero, List.set_cons_succ]))
          clear heq
          (refine wpAnyH_take (i := 5) (v := ?_) rfl (by kernel_rfl) (by kernel_rfl) (by kernel_rfl) (fun _ _ _ h => h) (Or.inl ⟨by rfl, ?_⟩) (by assumption) ?_; (case' refine_2 => (intro w hSw; go_simp; try with_reducible rfl)); (try simp only [Act.put, List.getElem_toArray, List.getElem_cons_zero, List.getElem_cons_succ, List.setIfInBounds_toArray, List.set_cons_zero, List.set_cons_succ]))
          (refine wpAnyH_ready (rs := [6]) (by kernel_rfl) (by simp) (AllReadyH.cons rfl (fun K hK => ?_) AllReadyH.nil); go_simp)
          refine (okO w _ g (some []) HL3.out.1).mono ?_
          rintro e w4 ⟨rfl, rfl⟩
          (refine Shut.out hK _ _ HA3.out (fun hHeld => ?_); clear hK K; (try simp only [Act.put, List.getElem_toArray, List.getElem_cons_zero, List.getElem_cons_succ, List.setIfInBounds_toArray, List.set_cons_zero, List.set_cons_succ]))
          (refine wpAnyH_take (i := 7) (v := ?_) rfl (by kernel_rfl) (by kernel_rfl) (by kernel_rfl) (fun _ _ _ h => h) (Or.inl ⟨by rfl, ?_⟩) (by assumption) ?_; (case' refine_2 => (intro w hSw; go_simp; try with_reducible rfl)); (try simp only [Act.put, List.getElem_toArray, List.getElem_cons_zero, List.getElem_cons_succ, List.setIfInBounds_toArray, List.set_cons_zero, List.set_cons_succ]))
          (refine wpAnyH_take (i := 8) (v := ?_) rfl (by kernel_rfl) (by kernel_rfl) (by kernel_rfl) (fun _ _ _ h => h) (Or.inl ⟨by rfl, ?_⟩) (by assumption) ?_; (case' refine_2 => (intro w hSw; go_simp; try with_reducible rfl)); (try simp only [Act.put, List.getElem_toArray, List.getElem_cons_zero, List.getElem_cons_succ, List.setIfInBounds_toArray, List.set_cons_zero, List.set_cons_succ]))
          (refine wpAnyH_take (i := 9) (v := ?_) rfl (by kernel_rfl) (by kernel_rfl) (by kernel_rfl) (fun _ _ _ h => h) (Or.inl ⟨by rfl, ?_⟩) (by assumption) ?_; (case' refine_2 => (intro w hSw; go_simp; try with_reducible rfl)); (try simp only [Act.put, List.getElem_toArray, List.getElem_cons_zero, List.getElem_cons_succ, List.setIfInBounds_toArray, List.set_cons_zero, List.set_cons_succ]))
          (refine wpAnyH_take (i := 10) (v := ?_) rfl (by kernel_rfl) (by kernel_rfl) (by kernel_rfl) (fun _ _ _ h => h) (Or.inl ⟨by rfl, ?_⟩) (by assumption) ?_; (case' refine_2 => (intro w hSw; go_simp; try with_reducible rfl)); (try simp only [Act.put, List.getElem_toArray, List.getElem_cons_zero, List.getElem_cons_succ, List.setIfInBounds_toArray, List.set_cons_zero, List.set_cons_succ]))
          (refine wpAnyH_ready (rs := [11]) (by kernel_rfl) (by simp) (AllReadyH.cons rfl (fun K hK => ?_) AllReadyH.nil); go_simp)
          refine (leftO_ w _ g (some []) HL3.out.1).mono ?_
          rintro e w4 ⟨rfl, rfl⟩
          (refine Shut.out hK _ _ HA3.out (fun hHeld => ?_); clear hK K; (try simp only [Act.put, List.getElem_toArray, List.getElem_cons_zero, List.getElem_cons_succ, List.setIfInBounds_toArray, List.set_cons_zero, List.set_cons_succ]))
          (refine wpAnyH_take (i := 12) (v := ?_) rfl (by kernel_rfl) (by kernel_rfl) (by kernel_rfl) (fun _ _ _ h => h) (Or.inl ⟨by rfl, ?_⟩) (by assumption) ?_; (case' refine_2 => (intro w hSw; go_simp; try with_reducible rfl)); (try simp only [Act.put, List.getElem_toArray, List.getElem_cons_zero, List.getElem_cons_succ, List.setIfInBounds_toArray, List.set_cons_zero, List.set_cons_succ]))
          (refine wpAnyH_take (i := 13) (v := ?_) rfl (by kernel_rfl) (by kernel_rfl) (by kernel_rfl) (fun _ _ _ h => h) (Or.inl ⟨by rfl, ?_⟩) (by assumption) ?_; (case' refine_2 => (intro w hSw; go_simp; try with_reducible rfl)); (try simp only [Act.put, List.getElem_toArray, List.getElem_cons_zero, List.getElem_cons_succ, List.setIfInBounds_toArray, List.set_cons_zero, List.set_cons_succ]))
          refine wpAnyH_done (by kernel_rfl) ?_ _
          go_wp2_with (fail)
          go_ret2
          refine ⟨.slice AL l.length cL, by rw [HE.out]; first | done | rfl, ?_, HL3.out.2.1⟩
          rw [HE.out]
          exact Kd.R_mono (Kd.R_lower HR3.out (by have := HWH.out; omega)) (fun _ _ => trivial)
        | false =>
          have HE := Aside0.mk (show getC b = ([], 2) from by rw [HGC.out]; unfold finC; rw [if_neg (fun h => of_decide_eq_false heb h.2)])
          clear hso hBS heb hb32 h32
          go_wp2_with (fail)
          refine wp_region_held_drew (S := fun V => AtC V ⟨h, 0, none⟩ D) (by kernel_rfl) (HAV.out _ (below_drew1 (Below.refl _ _))) (fun hHeld => ?_)
          (refine wpAnyH_take (i := 0) (v := ?_) rfl (by kernel_rfl) (by kernel_rfl) (by kernel_rfl) (fun _ _ _ h => h) (Or.inl ⟨by rfl, ?_⟩) (by assumption) ?_; (case' refine_2 => (intro w hSw; go_simp; try with_reducible rfl)); (try simp only [Act.put, List.getElem_toArray, List.getElem_cons_zero, List.getElem_cons_succ, List.setIfInBounds_toArray, List.set_cons_zero, List.set_cons_succ]))
          (refine wpAnyH_take (i := 2) rfl (by kernel_rfl) (by kernel_rfl) (by kernel_rfl) (fun _ _ _ h => h) (yieldsIf_load_at (by rfl) _ _ rfl ⟨h, 0, none⟩ rfl D _ (fun _ h => h) (by assumption) rfl HDI.out) (by assumption) ?_; (try simp only [Act.put, List.getElem_toArray, List.getElem_cons_zero, List.getElem_cons_succ, List.setIfInBounds_toArray, List.set_cons_zero, List.set_cons_succ]))
          (refine wpAnyH_ready (rs := [1]) (by kernel_rfl) (by simp) (AllReadyH.cons rfl (fun K hK => ?_) AllReadyH.nil); go_simp)
          refine (HSM.out _ (below_drew1 (Below.refl _ _))).mono ?_
          rintro e w3 ⟨rfl, hl⟩
          have HL3 := Aside0.mk hl
          have HA3 := Aside0.mk (atC_step (HAV.out _ (below_drew1 (Below.refl _ _))) hl.2.2 HNE.out)
          have HR3 := Aside0.mk (Kd.R_keep (Kd.R_bound (Kd.R_drew HROW.out)) hl.2.2 (fun k hk => by have := hk.2.1; have := HGH.out; omega))
          clear hl
          (refine Shut.out hK _ _ HA3.out (fun hHeld => ?_); clear hK K; (try simp only [Act.put, List.getElem_toArray, List.getElem_cons_zero, List.getElem_cons_succ, List.setIfInBounds_toArray, List.set_cons_zero, List.set_cons_succ]))
          have heq := HEQ.out
          (refine wpAnyH_take (i := 3) (v := ?_) rfl (by kernel_rfl) (by kernel_rfl) (by kernel_rfl) (fun _ _ _ h => h) (Or.inl ⟨by rfl, ?_⟩) (by assumption) ?_; (case' refine_2 => (intro w hSw; go_simp; try with_reducible rfl)); (try simp only [Act.put, List.getElem_toArray, List.getElem_cons_zero, List.getElem_cons_succ, List.setIfInBounds_toArray, List.set_cons_zero, List.set_cons_succ]))
          (refine wpAnyH_take (i := 4) (v := ?_) rfl (by kernel_rfl) (by kernel_rfl) (by kernel_rfl) (fun _ _ _ h => h) (Or.inl ⟨by rfl, ?_⟩) (by assumption) ?_; (case' refine_2 => (intro w hSw; go_simp; try with_reducible rfl)); (try simp only [Act.put, List.getElem_toArray, List.getElem_cons_zero, List.getElem_cons_succ, List.setIfInBounds_toArray, List.set_cons_zero, List.set_cons_succ]))
          clear heq
          (refine wpAnyH_take (i := 5) (v := undef) rfl (by kernel_rfl) (by kernel_rfl) (by kernel_rfl) (fun _ _ _ h => h) (Or.inr ⟨by rfl, rfl⟩) (by assumption) ?_; (try simp only [Act.put, List.getElem_toArray, List.getElem_cons_zero, List.getElem_cons_succ, List.setIfInBounds_toArray, List.set_cons_zero, List.set_cons_succ]))
          (refine wpAnyH_take (i := 6) (v := undef) rfl (by kernel_rfl) (by kernel_rfl) (by kernel_rfl) (fun _ _ _ h => h) (Or.inr ⟨by rfl, rfl⟩) (by assumption) ?_; (try simp only [Act.put, List.getElem_toArray, List.getElem_cons_zero, List.getElem_cons_succ, List.setIfInBounds_toArray, List.set_cons_zero, List.set_cons_succ]))
          (refine wpAnyH_take (i := 7) (v := undef) rfl (by kernel_rfl) (by kernel_rfl) (by kernel_rfl) (fun _ _ _ h => h) (Or.inr ⟨by rfl, rfl⟩) (by assumption) ?_; (try simp only [Act.put, List.getElem_toArray, List.getElem_cons_zero, List.getElem_cons_succ, List.setIfInBounds_toArray, List.set_cons_zero, List.set_cons_succ]))
          (refine wpAnyH_take (i := 8) (v := ?_) rfl (by kernel_rfl) (by kernel_rfl) (by kernel_rfl) (fun _ _ _ h => h) (Or.inl ⟨by rfl, ?_⟩) (by assumption) ?_; (case' refine_2 => (intro w hSw; go_simp; try with_reducible rfl)); (try simp only [Act.put, List.getElem_toArray, List.getElem_cons_zero, List.getElem_cons_succ, List.setIfInBounds_toArray, List.set_cons_zero, List.set_cons_succ]))
          (refine wpAnyH_take (i := 9) (v := ?_) rfl (by kernel_rfl) (by kernel_rfl) (by kernel_rfl) (fun _ _ _ h => h) (Or.inl ⟨by rfl, ?_⟩) (by assumption) ?_; (case' refine_2 => (intro w hSw; go_simp; try with_reducible rfl)); (try simp only [Act.put, List.getElem_toArray, List.getElem_cons_zero, List.getElem_cons_succ, List.setIfInBounds_toArray, List.set_cons_zero, List.set_cons_succ]))
          (refine wpAnyH_take (i := 10) (v := undef) rfl (by kernel_rfl) (by kernel_rfl) (by kernel_rfl) (fun _ _ _ h => h) (Or.inr ⟨by rfl, rfl⟩) (by assumption) ?_; (try simp only [Act.put, List.getElem_toArray, List.getElem_cons_zero, List.getElem_cons_succ, List.setIfInBounds_toArray, List.set_cons_zero, List.set_cons_succ]))
          (refine wpAnyH_take (i := 11) (v := undef) rfl (by kernel_rfl) (by kernel_rfl) (by kernel_rfl) (fun _ _ _ h => h) (Or.inr ⟨by rfl, rfl⟩) (by assumption) ?_; (try simp only [Act.put, List.getElem_toArray, List.getElem_cons_zero, List.getElem_cons_succ, List.setIfInBounds_toArray, List.set_cons_zero, List.set_cons_succ]))
          (refine wpAnyH_take (i := 12) (v := undef) rfl (by kernel_rfl) (by kernel_rfl) (by kernel_rfl) (fun _ _ _ h => h) (Or.inr ⟨by rfl, rfl⟩) (by assumption) ?_; (try simp only [Act.put, List.getElem_toArray, List.getElem_cons_zero, List.getElem_cons_succ, List.setIfInBounds_toArray, List.set_cons_zero, List.set_cons_succ]))
          (refine wpAnyH_take (i := 13) (v := ?_) rfl (by kernel_rfl) (by kernel_rfl) (by kernel_rfl) (fun _ _ _ h => h) (Or.inl ⟨by rfl, ?_⟩) (by assumption) ?_; (case' refine_2 => (intro w hSw; go_simp; try with_reducible rfl)); (try simp only [Act.put, List.getElem_toArray, List.getElem_cons_zero, List.getElem_cons_succ, List.setIfInBounds_toArray, List.set_cons_zero, List.set_cons_succ]))
          refine wpAnyH_done (by kernel_rfl) ?_ _
          go_wp2_with (fail)
          go_ret2
          refine ⟨.slice none 0 0, by rw [HE.out]; first | done | rfl, ?_, HL3.out.2.1⟩
          rw [HE.out]
          exact Kd.R_nil _ _ _ _ _
      · have hso : sumO (some bs) = (Z, none) := by
          have h1 : takeO (some bs) 32 = ([], none) := by simp only [takeO]; rw [if_neg (by omega)]
          unfold sumO
          rw [h1]
          rfl
        obtain ⟨BS, hBS⟩ := sumC Z Z_len
        rw [hso, hBS.v] at HSM
        have HEQ := Aside0.mk (run_eq_sum Z (headT l) Z_len (headT_len _))
        rw [hBS.v, HD.out.v] at HEQ
        have HE := Aside0.mk (show getC b = ([], 2) from by rw [HGC.out]; unfold finC; rw [if_neg (fun h => hb32 h.1)])
        obtain ⟨eb, heb⟩ : ∃ t, decide (Z = headT l) = t := ⟨_, rfl⟩
        rw [heb] at HEQ
        clear hso hBS heb hb32 h32
        cases eb with
        | true =>
          go_wp2_with (fail)
          refine wp_region_held_drew (S := fun V => AtC V ⟨h, 0, none⟩ D) (by kernel_rfl) (HAV.out _ (below_drew1 (Below.refl _ _))) (fun hHeld => ?_)
          (refine wpAnyH_take (i := 0) (v := ?_) rfl (by kernel_rfl) (by kernel_rfl) (by kernel_rfl) (fun _ _ _ h => h) (Or.inl ⟨by rfl, ?_⟩) (by assumption) ?_; (case' refine_2 => (intro w hSw; go_simp; try with_reducible rfl)); (try simp only [Act.put, List.getElem_toArray, List.getElem_cons_zero, List.getElem_cons_succ, List.setIfInBounds_toArray, List.set_cons_zero, List.set_cons_succ]))
          (refine wpAnyH_take (i := 2) rfl (by kernel_rfl) (by kernel_rfl) (by kernel_rfl) (fun _ _ _ h => h) (yieldsIf_load_at (by rfl) _ _ rfl ⟨h, 0, none⟩ rfl D _ (fun _ h => h) (by assumption) rfl HDI.out) (by assumption) ?_; (try simp only [Act.put, List.getElem_toArray, List.getElem_cons_zero, List.getElem_cons_succ, List.setIfInBounds_toArray, List.set_cons_zero, List.set_cons_succ]))
          (refine wpAnyH_ready (rs := [1]) (by kernel_rfl) (by simp) (AllReadyH.cons rfl (fun K hK => ?_) AllReadyH.nil); go_simp)
          refine (HSM.out _ (below_drew1 (Below.refl _ _))).mono ?_
          rintro e w3 ⟨rfl, hl⟩
          have HL3 := Aside0.mk hl
          have HA3 := Aside0.mk (atC_step (HAV.out _ (below_drew1 (Below.refl _ _))) hl.2.2 HNE.out)
          have HR3 := Aside0.mk (Kd.R_keep (Kd.R_bound (Kd.R_drew HROW.out)) hl.2.2 (fun k hk => by have := hk.2.1; have := HGH.out; omega))
          clear hl
          (refine Shut.out hK _ _ HA3.out (fun hHeld => ?_); clear hK K; (try simp only [Act.put, List.getElem_toArray, List.getElem_cons_zero, List.getElem_cons_succ, List.setIfInBounds_toArray, List.set_cons_zero, List.set_cons_succ]))
          have heq := HEQ.out
          (refine wpAnyH_take (i := 3) (v := ?_) rfl (by kernel_rfl) (by kernel_rfl) (by kernel_rfl) (fun _ _ _ h => h) (Or.inl ⟨by rfl, ?_⟩) (by assumption) ?_; (case' refine_2 => (intro w hSw; go_simp; try with_reducible rfl)); (try simp only [Act.put, List.getElem_toArray, List.getElem_cons_zero, List.getElem_cons_succ, List.setIfInBounds_toArray, List.set_cons_zero, List.set_cons_succ]))
          (refine wpAnyH_take (i := 4) (v := ?_) rfl (by kernel_rfl) (by kernel_rfl) (by kernel_rfl) (fun _ _ _ h => h) (Or.inl ⟨by rfl, ?_⟩) (by assumption) ?_; (case' refine_2 => (intro w hSw; go_simp; try with_reducible rfl)); (try simp only [Act.put, List.getElem_toArray, List.getElem_cons_zero, List.getElem_cons_succ, List.setIfInBounds_toArray, List.set_cons_zero, List.set_cons_succ]))
          clear heq
          (refine wpAnyH_take (i := 5) (v := ?_) rfl (by kernel_rfl) (by kernel_rfl) (by kernel_rfl) (fun _ _ _ h => h) (Or.inl ⟨by rfl, ?_⟩) (by assumption) ?_; (case' refine_2 => (intro w hSw; go_simp; try with_reducible rfl)); (try simp only [Act.put, List.getElem_toArray, List.getElem_cons_zero, List.getElem_cons_succ, List.setIfInBounds_toArray, List.set_cons_zero, List.set_cons_succ]))
          (refine wpAnyH_ready (rs := [6]) (by kernel_rfl) (by simp) (AllReadyH.cons rfl (fun K hK => ?_) AllReadyH.nil); go_simp)
          refine (okO w _ g none HL3.out.1).mono ?_
          rintro e w4 ⟨rfl, rfl⟩
          (refine Shut.out hK _ _ HA3.out (fun hHeld => ?_); clear hK K; (try simp only [Act.put, List.getElem_toArray, List.getElem_cons_zero, List.getElem_cons_succ, List.setIfInBounds_toArray, List.set_cons_zero, List.set_cons_succ]))
          (refine wpAnyH_take (i := 7) (v := ?_) rfl (by kernel_rfl) (by kernel_rfl) (by kernel_rfl) (fun _ _ _ h => h) (Or.inl ⟨by rfl, ?_⟩) (by assumption) ?_; (case' refine_2 => (intro w hSw; go_simp; try with_reducible rfl)); (try simp only [Act.put, List.getElem_toArray, List.getElem_cons_zero, List.getElem_cons_succ, List.setIfInBounds_toArray, List.set_cons_zero, List.set_cons_succ]))
          (refine wpAnyH_take (i := 8) (v := ?_) rfl (by kernel_rfl) (by kernel_rfl) (by kernel_rfl) (fun _ _ _ h => h) (Or.inl ⟨by rfl, ?_⟩) (by assumption) ?_; (case' refine_2 => (intro w hSw; go_simp; try with_reducible rfl)); (try simp only [Act.put, List.getElem_toArray, List.getElem_cons_zero, List.getElem_cons_succ, List.setIfInBounds_toArray, List.set_cons_zero, List.set_cons_succ]))
          (refine wpAnyH_take (i := 9) (v := ?_) rfl (by kernel_rfl) (by kernel_rfl) (by kernel_rfl) (fun _ _ _ h => h) (Or.inl ⟨by rfl, ?_⟩) (by assumption) ?_; (case' refine_2 => (intro w hSw; go_simp; try with_reducible rfl)); (try simp only [Act.put, List.getElem_toArray, List.getElem_cons_zero, List.getElem_cons_succ, List.setIfInBounds_toArray, List.set_cons_zero, List.set_cons_succ]))
          (refine wpAnyH_take (i := 10) (v := undef) rfl (by kernel_rfl) (by kernel_rfl) (by kernel_rfl) (fun _ _ _ h => h) (Or.inr ⟨by rfl, rfl⟩) (by assumption) ?_; (try simp only [Act.put, List.getElem_toArray, List.getElem_cons_zero, List.getElem_cons_succ, List.setIfInBounds_toArray, List.set_cons_zero, List.set_cons_succ]))
          (refine wpAnyH_take (i := 11) (v := undef) rfl (by kernel_rfl) (by kernel_rfl) (by kernel_rfl) (fun _ _ _ h => h) (Or.inr ⟨by rfl, rfl⟩) (by assumption) ?_; (try simp only [Act.put, List.getElem_toArray, List.getElem_cons_zero, List.getElem_cons_succ, List.setIfInBounds_toArray, List.set_cons_zero, List.set_cons_succ]))
          (refine wpAnyH_take (i := 12) (v := undef) rfl (by kernel_rfl) (by kernel_rfl) (by kernel_rfl) (fun _ _ _ h => h) (Or.inr ⟨by rfl, rfl⟩) (by assumption) ?_; (try simp only [Act.put, List.getElem_toArray, List.getElem_cons_zero, List.getElem_cons_succ, List.setIfInBounds_toArray, List.set_cons_zero, List.set_cons_succ]))
          (refine wpAnyH_take (i := 13) (v := ?_) rfl (by kernel_rfl) (by kernel_rfl) (by kernel_rfl) (fun _ _ _ h => h) (Or.inl ⟨by rfl, ?_⟩) (by assumption) ?_; (case' refine_2 => (intro w hSw; go_simp; try with_reducible rfl)); (try simp only [Act.put, List.getElem_toArray, List.getElem_cons_zero, List.getElem_cons_succ, List.setIfInBounds_toArray, List.set_cons_zero, List.set_cons_succ]))
          refine wpAnyH_done (by kernel_rfl) ?_ _
          go_wp2_with (fail)
          go_ret2
          refine ⟨.slice none 0 0, by rw [HE.out]; first | done | rfl, ?_, HL3.out.2.1⟩
          rw [HE.out]
          exact Kd.R_nil _ _ _ _ _
        | false =>
          go_wp2_with (fail)
          refine wp_region_held_drew (S := fun V => AtC V ⟨h, 0, none⟩ D) (by kernel_rfl) (HAV.out _ (below_drew1 (Below.refl _ _))) (fun hHeld => ?_)
          (refine wpAnyH_take (i := 0) (v := ?_) rfl (by kernel_rfl) (by kernel_rfl) (by kernel_rfl) (fun _ _ _ h => h) (Or.inl ⟨by rfl, ?_⟩) (by assumption) ?_; (case' refine_2 => (intro w hSw; go_simp; try with_reducible rfl)); (try simp only [Act.put, List.getElem_toArray, List.getElem_cons_zero, List.getElem_cons_succ, List.setIfInBounds_toArray, List.set_cons_zero, List.set_cons_succ]))
          (refine wpAnyH_take (i := 2) rfl (by kernel_rfl) (by kernel_rfl) (by kernel_rfl) (fun _ _ _ h => h) (yieldsIf_load_at (by rfl) _ _ rfl ⟨h, 0, none⟩ rfl D _ (fun _ h => h) (by assumption) rfl HDI.out) (by assumption) ?_; (try simp only [Act.put, List.getElem_toArray, List.getElem_cons_zero, List.getElem_cons_succ, List.setIfInBounds_toArray, List.set_cons_zero, List.set_cons_succ]))
          (refine wpAnyH_ready (rs := [1]) (by kernel_rfl) (by simp) (AllReadyH.cons rfl (fun K hK => ?_) AllReadyH.nil); go_simp)
          refine (HSM.out _ (below_drew1 (Below.refl _ _))).mono ?_
          rintro e w3 ⟨rfl, hl⟩
          have HL3 := Aside0.mk hl
          have HA3 := Aside0.mk (atC_step (HAV.out _ (below_drew1 (Below.refl _ _))) hl.2.2 HNE.out)
          have HR3 := Aside0.mk (Kd.R_keep (Kd.R_bound (Kd.R_drew HROW.out)) hl.2.2 (fun k hk => by have := hk.2.1; have := HGH.out; omega))
          clear hl
          (refine Shut.out hK _ _ HA3.out (fun hHeld => ?_); clear hK K; (try simp only [Act.put, List.getElem_toArray, List.getElem_cons_zero, List.getElem_cons_succ, List.setIfInBounds_toArray, List.set_cons_zero, List.set_cons_succ]))
          have heq := HEQ.out
          (refine wpAnyH_take (i := 3) (v := ?_) rfl (by kernel_rfl) (by kernel_rfl) (by kernel_rfl) (fun _ _ _ h => h) (Or.inl ⟨by rfl, ?_⟩) (by assumption) ?_; (case' refine_2 => (intro w hSw; go_simp; try with_reducible rfl)); (try simp only [Act.put, List.getElem_toArray, List.getElem_cons_zero, List.getElem_cons_succ, List.setIfInBounds_toArray, List.set_cons_zero, List.set_cons_succ]))
          (refine wpAnyH_take (i := 4) (v := ?_) rfl (by kernel_rfl) (by kernel_rfl) (by kernel_rfl) (fun _ _ _ h => h) (Or.inl ⟨by rfl, ?_⟩) (by assumption) ?_; (case' refine_2 => (intro w hSw; go_simp; try with_reducible rfl)); (try simp only [Act.put, List.getElem_toArray, List.getElem_cons_zero, List.getElem_cons_succ, List.setIfInBounds_toArray, List.set_cons_zero, List.set_cons_succ]))
          clear heq
          (refine wpAnyH_take (i := 5) (v := undef) rfl (by kernel_rfl) (by kernel_rfl) (by kernel_rfl) (fun _ _ _ h => h) (Or.inr ⟨by rfl, rfl⟩) (by assumption) ?_; (try simp only [Act.put, List.getElem_toArray, List.getElem_cons_zero, List.getElem_cons_succ, List.setIfInBounds_toArray, List.set_cons_zero, List.set_cons_succ]))
          (refine wpAnyH_take (i := 6) (v := undef) rfl (by kernel_rfl) (by kernel_rfl) (by kernel_rfl) (fun _ _ _ h => h) (Or.inr ⟨by rfl, rfl⟩) (by assumption) ?_; (try simp only [Act.put, List.getElem_toArray, List.getElem_cons_zero, List.getElem_cons_succ, List.setIfInBounds_toArray, List.set_cons_zero, List.set_cons_succ]))
          (refine wpAnyH_take (i := 7) (v := undef) rfl (by kernel_rfl) (by kernel_rfl) (by kernel_rfl) (fun _ _ _ h => h) (Or.inr ⟨by rfl, rfl⟩) (by assumption) ?_; (try simp only [Act.put, List.getElem_toArray, List.getElem_cons_zero, List.getElem_cons_succ, List.setIfInBounds_toArray, List.set_cons_zero, List.set_cons_succ]))
          (refine wpAnyH_take (i := 8) (v := ?_) rfl (by kernel_rfl) (by kernel_rfl) (by kernel_rfl) (fun _ _ _ h => h) (Or.inl ⟨by rfl, ?_⟩) (by assumption) ?_; (case' refine_2 => (intro w hSw; go_simp; try with_reducible rfl)); (try simp only [Act.put, List.getElem_toArray, List.getElem_cons_zero, List.getElem_cons_succ, List.setIfInBounds_toArray, List.set_cons_zero, List.set_cons_succ]))
          (refine wpAnyH_take (i := 9) (v := ?_) rfl (by kernel_rfl) (by kernel_rfl) (by kernel_rfl) (fun _ _ _ h => h) (Or.inl ⟨by rfl, ?_⟩) (by assumption) ?_; (case' refine_2 => (intro w hSw; go_simp; try with_reducible rfl)); (try simp only [Act.put, List.getElem_toArray, List.getElem_cons_zero, List.getElem_cons_succ, List.setIfInBounds_toArray, List.set_cons_zero, List.set_cons_succ]))
          (refine wpAnyH_take (i := 10) (v := undef) rfl (by kernel_rfl) (by kernel_rfl) (by kernel_rfl) (fun _ _ _ h => h) (Or.inr ⟨by rfl, rfl⟩) (by assumption) ?_; (try simp only [Act.put, List.getElem_toArray, List.getElem_cons_zero, List.getElem_cons_succ, List.setIfInBounds_toArray, List.set_cons_zero, List.set_cons_succ]))
          (refine wpAnyH_take (i := 11) (v := undef) rfl (by kernel_rfl) (by kernel_rfl) (by kernel_rfl) (fun _ _ _ h => h) (Or.inr ⟨by rfl, rfl⟩) (by assumption) ?_; (try simp only [Act.put, List.getElem_toArray, List.getElem_cons_zero, List.getElem_cons_succ, List.setIfInBounds_toArray, List.set_cons_zero, List.set_cons_succ]))
          (refine wpAnyH_take (i := 12) (v := undef) rfl (by kernel_rfl) (by kernel_rfl) (by kernel_rfl) (fun _ _ _ h => h) (Or.inr ⟨by rfl, rfl⟩) (by assumption) ?_; (try simp only [Act.put, List.getElem_toArray, List.getElem_cons_zero, List.getElem_cons_succ, List.setIfInBounds_toArray, List.set_cons_zero, List.set_cons_succ]))
          (refine wpAnyH_take (i := 13) (v := ?_) rfl (by kernel_rfl) (by kernel_rfl) (by kernel_rfl) (fun _ _ _ h => h) (Or.inl ⟨by rfl, ?_⟩) (by assumption) ?_; (case' refine_2 => (intro w hSw; go_simp; try with_reducible rfl)); (try simp only [Act.put, List.getElem_toArray, List.getElem_cons_zero, List.getElem_cons_succ, List.setIfInBounds_toArray, List.set_cons_zero, List.set_cons_succ]))
          refine wpAnyH_done (by kernel_rfl) ?_ _
          go_wp2_with (fail)
          go_ret2
          refine ⟨.slice none 0 0, by rw [HE.out]; first | done | rfl, ?_, HL3.out.2.1⟩
          rw [HE.out]
          exact Kd.R_nil _ _ _ _ _
end Go.Proofs.Ytfpkgdenohcglaa.Chn
/- The document's Get walked (printed by gen_chnrget.py). -/
namespace Go.Proofs.Ytfpkgdenohcglaa.Chn
set_option linter.unusedVariables false
set_option linter.unusedSimpArgs false
open Go.RowKit Go.Proofs.Ytfpkgdenohcglaa.Lo Go.Proofs.Ytfpkgdenohcglaa.RdPlain Go.Proofs.Ytfpkgdenohcglaa.Base Go.Proofs.Ytfpkgdenohcglaa.TlvPlain Go.Proofs.Ytfpkgdenohcglaa.ShaPlain Go.Proofs.Ytfpkgdenohcglaa.Sha Go.Proofs.Ytfpkgdenohcglaa.Com Go.Proofs.Ytfpkgdenohcglaa.Aid Go.Proofs.YtfpkgdenohcglaaW.PrintWords Go.Proofs.YtfpkgdenohcglaaW.PrintLast Go.Proofs.YtfpkgdenohcglaaW.PrintMore
open Rf (RfO takeO_ numO_ textO_)
attribute [local irreducible] shaB
theorem rrb_step {w0 W W' : World} {g : Nat} {s : Option (List Int)} {A : Option Addr} {xs : List Int} (h : Rb W A xs) (hs : RfO w0 W g s) (hk : KeepBut W W' g none) : Rb W' A xs := by
  obtain ⟨_, _, cs, h1, h2⟩ := hs.blk
  exact reads_keep h hk (reads_ne h1 h2 h)
theorem rb_one {W : World} {ad : Addr} {f : Int} (h : Rb W (some ad) [f]) : W.cell? ad = some (.int .u8 f) := rb_cells h 0 _ rfl
theorem built_new5 (n sl : Int) (f g : Nat → Value) (b : Bool) :
    Try.prog.built 27 [(0, .int .i64 n), (1, .agg ((List.range 32).map f).toArray), (2, .agg ((List.range 32).map g).toArray), (3, .int .u64 sl), (5, .bool b)] =
      some (cellsE n ((List.range 32).map f) ((List.range 32).map g) sl none 0 0 b).toArray := by kernel_rfl
theorem run_new5 (w : World) (n sl : Int) (P C : List Value) (hP : P.length = 32) (hC : C.length = 32) (b : Bool) :
    (Instr.build 27 #[(0, .int .i64 n), (1, .agg P.toArray), (2, .agg C.toArray), (3, .int .u64 sl), (5, .bool b)]).run Try.prog w = .ok (.agg (cellsE n P C sl none 0 0 b).toArray) w := by
  refine run_build w _ _ _ ?_
  have h := built_new5 n sl (fun i => P.getD i undef) (fun i => C.getD i undef) b
  rw [← list32 P hP, ← list32 C hC] at h
  exact h
theorem yieldsIf_new5 {a : Act} {ops : Array Oper} {S : World → Prop} {op : Oper} (hw : Region.wanted op (yielded ops a.tmps) = true) (x0 x1 x2 x3 x5 : Operand) (ho : op.op = .build 27 #[(0, x0), (1, x1), (2, x2), (3, x3), (5, x5)]) (n sl : Int) (P C : List Value) (hP : P.length = 32) (hC : C.length = 32) (b : Bool)
    (h0 : a.eval x0 = .int .i64 n) (h1 : a.eval x1 = .agg P.toArray) (h2 : a.eval x2 = .agg C.toArray) (h3 : a.eval x3 = .int .u64 sl) (h5 : a.eval x5 = .bool b) : YieldsIf Try.prog ops S op (.agg (cellsE n P C sl none 0 0 b).toArray) a :=
  .inl ⟨hw, fun w hw' => by
    have hp : (#[((0 : Nat), x0), (1, x1), (2, x2), (3, x3), (5, x5)].map fun (i, y) => (i, a.eval y)) = #[(0, .int .i64 n), (1, .agg P.toArray), (2, .agg C.toArray), (3, .int .u64 sl), (5, .bool b)] := by simp [h0, h1, h2, h3, h5]
    unfold execOp
    simp only [ho, hp, Sem.run_bind, run_new5 w n sl P C hP hC b, Result.andThen_ok, Sem.run_pure]⟩
theorem set_pay (s sl : Int) (P C : List Value) (hP : P.length = 32) (hC : C.length = 32) (A : Option Addr) (n c : Nat) (r : Bool) :
    (cellsE s P C sl none 0 0 r).set 66 (.slice A n c) = cellsE s P C sl A n c r := by
  have e : ∀ l : List Value, Value.int .i64 s :: (P ++ (C ++ l)) = (Value.int .i64 s :: (P ++ C)) ++ l := fun l => by simp
  have hn : (Value.int .i64 s :: (P ++ C)).length = 65 := by simp [hP, hC]
  unfold cellsE
  rw [e, e, List.set_append_right _ _ (by rw [hn]; decide), hn]
  rfl
theorem take_first {bs : List Int} (h : 32 < bs.length) : ∃ f b1, bs = f :: b1 ∧ takeO (some bs) 1 = ([f], some b1) := by
  cases bs with
  | nil => simp at h
  | cons f b1 => exact ⟨f, b1, rfl, Rf.take1_cons f b1⟩
/-- What the loop of the document's Get keeps. -/
structure RgetI (w : World) (g : Nat) (b : List Int) (n : Nat) (bs : List Int) (l : List Ent) (v : Value) (W : World) : Prop where
  rd : RfO w W g (some bs)
  bl : Below w.heap.size w W
  row : Rg W (g + 1) v l
  u : Lu' l
  p : ∀ x ∈ l, (payE x).length ≤ 100
  len : l.length ≤ 120
  fu : bs.length ≤ n
  eq : getN n bs l = getC b
/-- A round more. -/
theorem RgetI.next {w : World} {g : Nat} {b : List Int} {n : Nat} {bs r : List Int} {l : List Ent} {x : Ent} {v v' : Value} {W W' : World} (H : RgetI w g b (n + 1) bs l v W) (h32 : 32 < bs.length) (hr : readE (some bs) (l.length : Int) (headT l) = some (x, r)) (h120 : ¬ 120 ≤ l.length)
    (hrd : RfO w W' g (some r)) (hbl : Below w.heap.size w W') (hrow : Rg W' (g + 1) v' (l ++ [x])) (hx : Eu x) (hp : (payE x).length ≤ 100) : RgetI w g b n r (l ++ [x]) v' W' := by
  refine ⟨hrd, hbl, hrow, ?_, ?_, by rw [List.length_append, List.length_singleton]; omega, ?_, ?_⟩
  · intro y hy
    rcases List.mem_append.1 hy with hy | hy
    · exact H.u y hy
    · rw [List.mem_singleton.1 hy]; exact hx
  · intro y hy
    rcases List.mem_append.1 hy with hy | hy
    · exact H.p y hy
    · rw [List.mem_singleton.1 hy]; exact hp
  · have h1 := rd_len (read_some hr).2.2
    have h2 := H.fu
    omega
  · rw [← getN_next h32 hr h120]; exact H.eq
set_option maxHeartbeats 16000000 in
set_option maxRecDepth 100000 in
theorem rget_c (w : World) (A : Option Addr) (c : Nat) (b : List Int) (hr : Rb w A b) (hc : b.length ≤ c) (hl : b.length < 100000000) (hu : U8 b) :
    Calls Try.prog 41 #[.slice A b.length c] w (RetG w (getC b)) := by
  have HCOPY := Aside0.mk (copy_c A c b w hr hc (by omega))
  have HUL := Aside0.mk (And.intro hu hl)
  have hu102 := Try.underlying102
  clear hr hc hl hu
  go_enter Try.func41, Try.ntmps41
  go_wp2_with (fail)
  refine HCOPY.out.mono ?_
  rintro e w5 ⟨v, rfl, ho, hb⟩
  obtain ⟨A5, c5, rfl, hl5, hr5⟩ := Ob.reads ho
  have HS := Aside0.mk (show RfO w (w5.alloc (.cells #[.slice A5 b.length c5, .bool false] 102)) w5.heap.size (some b) from ⟨hb.size, A5, c5, blk_new _ _, hl5, Kd.C_alloc hr5 _, (by have := HUL.out.2; omega), HUL.out.1, fun ad e => Kd.R_lt ho ad.block (by rw [e]; rfl)⟩)
  have H0 := Aside0.mk (show RgetI w w5.heap.size b b.length b [] (.slice none 0 0) (w5.alloc (.cells #[.slice A5 b.length c5, .bool false] 102)) from
    ⟨HS.out, below_alloc hb _, Kd.R_nil _ _ _ _ _, (fun _ h => by cases h), (fun _ h => by cases h), Nat.zero_le _, Nat.le_refl _, rfl⟩)
  have HWG := Aside0.mk (show w.heap.size ≤ w5.heap.size from hb.size)
  have HU8 := Aside0.mk (fun (W : World) (g : Nat) (bs : List Int) (h : RfO w W g (some bs)) => h.u8.1)
  clear ho hb hl5 hr5 HS HCOPY HUL
  go_upto_region 3 with (fail)
  obtain ⟨W0, hW0⟩ : ∃ V, w5.alloc (.cells #[.slice A5 b.length c5, .bool false] 102) = V := ⟨_, rfl⟩
  obtain ⟨g, hg⟩ : ∃ V, w5.heap.size = V := ⟨_, rfl⟩
  rw [hW0, hg] at H0
  rw [hg] at HWG
  rw [hW0, hg]
  clear hW0 hg
  go_loopg [5, 6, 7] b.length (fun gf v _ _ wx => ∃ (n : Nat) (bs : List Int) (l : List Ent), n = gf ∧ Aside0 (RgetI w g b n bs l v wx))
  case atStart => exact ⟨b.length, b, [], rfl, H0⟩
  case round =>
    clear H0
    obtain ⟨n, bs, l, hn, HI⟩ := hrel
    have HQ := Aside0.mk hn
    clear hn
    obtain ⟨W, hwy⟩ : ∃ wy, wy = wr := ⟨_, rfl⟩
    subst hwy
    obtain ⟨AL, cL, rfl⟩ := Kd.R_slice HI.out.row
    have HG := Aside0.mk (show g < W.heap.size from HI.out.rd.blk.2.1)
    have hu24 := Try.underlying23
    have hu27 := Try.underlying27
    have q2 : (l.length : Int) ≤ 120 := by have := HI.out.len; omega
    have HROW := Aside0.mk (fun V (hk : KeepBut W V g none) => show Rg V (g + 1) (.slice AL l.length cL) l from Kd.R_mono (Kd.R_keep (Kd.R_bound HI.out.row) hk (fun k hk => by have := hk.2.1; omega)) (fun _ _ => trivial))
    have hf1 := HI.out.rd.fail.1
    have hf2 := HI.out.rd.fail.2
    simp only [Option.isSome_some, Bool.not_true] at hf1
    obtain ⟨A7, c7, hb7, _, _⟩ := HI.out.rd.bytes
    by_cases h32 : 32 < bs.length
    · have q0 : decide ((32 : Int) < (bs.length : Int)) = true := decide_eq_true (by omega)
      have q1 : decide (32 < bs.length) = true := decide_eq_true h32
      obtain ⟨nb, hnb⟩ : ∃ k, bs.length = k := ⟨_, rfl⟩
      rw [hnb] at hb7 q0 q1
      have q5 : (32 : Int) < (nb : Int) := by omega
      go_upto_region 4 with (fail)
      clear hb7 q0 q1 hnb q5 hf1 hf2
      obtain ⟨f, b1, rfl, htk⟩ := take_first h32
      have HTK := Aside0.mk (takeO_ w W g (some (f :: b1)) 1 HI.out.rd HI.out.bl)
      rw [htk] at HTK
      have H32 := Aside0.mk h32
      have hu := fun bs' (e : some (f :: b1) = some bs') => show U8 bs' from by cases e; exact HU8.out W g (f :: b1) HI.out.rd
      have hru := rd_u8 (st := some (f :: b1)) hu
      have hrf : (rdE (some (f :: b1))).f = [f] := by unfold rdE; rw [htk]
      obtain ⟨P, hP⟩ := sumC (headT l) (headT_len _)
      obtain ⟨C, hC⟩ := sumC (rdE (some (f :: b1))).com (sumO_len _)
      have HHD := Aside0.mk (fun V (hV : Rf.Left w W V g (some b1)) => rhead_c l l.length rfl (by have := HI.out.len; omega) HI.out.u AL cL V (Kd.R_reads' (HROW.out V hV.2.2)).2.2)
      unfold Ret at HHD
      rw [hP.v] at HHD
      have HSUM := Aside0.mk (fun V (hV : Rf.Left w W V g (some b1)) => rsum_c w V g (some b1) hV.1 hV.2.1)
      have HNUM := Aside0.mk (fun V (hV : Rf.Left w W V g (sumO (some b1)).2) => numO_ w V g (sumO (some b1)).2 hV.1 hV.2.1)
      have HTXT := Aside0.mk (fun V (hV : Rf.Left w W V g (numO (sumO (some b1)).2).2) => textO_ w V g (numO (sumO (some b1)).2).2 100 hV.1 hV.2.1 (by decide))
      have e1 : (sumO (some b1)).1 = (rdE (some (f :: b1))).com := by unfold rdE; rw [htk]
      have e2 : (numO (sumO (some b1)).2).1 = (rdE (some (f :: b1))).salt := by unfold rdE; rw [htk]
      have e3 : (textO (numO (sumO (some b1)).2).2 100).1 = (rdE (some (f :: b1))).pay := by unfold rdE; rw [htk]
      have e4 : (textO (numO (sumO (some b1)).2).2 100).2 = (rdE (some (f :: b1))).st := by unfold rdE; rw [htk]
      obtain ⟨fb, hfb⟩ : ∃ t, (f == 1) = t := ⟨_, rfl⟩
      have hfd : decide (f = 1) = fb := by rw [← hfb]; rfl
      have HE := Aside0.mk (show readE (some (f :: b1)) (l.length : Int) (headT l) = match (rdE (some (f :: b1))).st with
        | none => none
        | some r => if 1 < f then none else if rightT ((l.length : Int), headT l, (rdE (some (f :: b1))).com, (rdE (some (f :: b1))).salt, (rdE (some (f :: b1))).pay, fb) then some (((l.length : Int), headT l, (rdE (some (f :: b1))).com, (rdE (some (f :: b1))).salt, (rdE (some (f :: b1))).pay, fb), r) else none from by
          unfold readE entR
          rw [hrf]
          simp only [List.getD_cons_zero]
          rw [hfd]
          rfl)
      have HEU := Aside0.mk (show Eu ((l.length : Int), headT l, (rdE (some (f :: b1))).com, (rdE (some (f :: b1))).salt, (rdE (some (f :: b1))).pay, fb) from ⟨headT_len _, headT_u8 _, sumO_len _, hru.1, hru.2.1, hru.2.2.1, hru.2.2.2.1⟩)
      have HPL := Aside0.mk (show (rdE (some (f :: b1))).pay.length ≤ 100 from hru.2.2.2.2.1)
      rw [e1, hC.v] at HSUM
      rw [e2] at HNUM
      rw [e3, e4] at HTXT
      obtain ⟨cm, hcm⟩ : ∃ t, (rdE (some (f :: b1))).com = t := ⟨_, rfl⟩
      obtain ⟨sl, hsl⟩ : ∃ t, (rdE (some (f :: b1))).salt = t := ⟨_, rfl⟩
      obtain ⟨py, hpy⟩ : ∃ t, (rdE (some (f :: b1))).pay = t := ⟨_, rfl⟩
      obtain ⟨st4, hs4⟩ : ∃ t, (rdE (some (f :: b1))).st = t := ⟨_, rfl⟩
      obtain ⟨st3, hs3⟩ : ∃ t, (numO (sumO (some b1)).2).2 = t := ⟨_, rfl⟩
      obtain ⟨st2, hs2⟩ : ∃ t, (sumO (some b1)).2 = t := ⟨_, rfl⟩
      rw [hcm] at HE HEU hC
      rw [hsl] at HE HEU HNUM
      rw [hpy] at HE HEU HPL HTXT
      rw [hs4] at HE HTXT
      rw [hs3] at HNUM HTXT
      rw [hs2] at HNUM HSUM
      have HPC := Aside0.mk (show SumC P (headT l) ∧ SumC C cm from And.intro hP hC)
      have HLP := Aside0.mk (And.intro hP.lenC hC.lenC)
      have HCI := Aside0.mk (show (Try.prog.info? 27).map (·.size) = some (cellsE (l.length : Int) P C sl none 0 0 fb).toArray.size ∧ zE.toArray.size = (cellsE (l.length : Int) P C sl none 0 0 fb).toArray.size ∧ (cellsE (l.length : Int) P C sl none 0 0 fb).toArray.all (·.oneCell') = true from by
        have e1 : (cellsE (l.length : Int) P C sl none 0 0 fb).length = 68 := by unfold cellsE; simp [hP.lenC, hC.lenC]
        refine ⟨by rw [List.size_toArray, e1]; exact info_ent, by rw [List.size_toArray, List.size_toArray, zE_len, e1], ?_⟩
        exact cellsE_one (by rw [← hP.eq]; exact nums_one' _) (by rw [← hC.eq]; exact nums_one' _))
      clear htk h32 hu hru hrf hP hC e1 e2 e3 e4 hfd hcm hsl hpy hs4 hs3 hs2
      go_wp2_with (fail)
      refine HTK.out.mono ?_
      rintro e w3 ⟨v, rfl, ho, hl⟩
      obtain ⟨A6, c6, rfl, hc6, hr6⟩ := Kd.R_reads ho
      obtain ⟨ad6, had, _⟩ := Rb.at0 hr6
      subst had
      have HFBd := Aside0.mk (show ad6.block < w3.drew.heap.size from Kd.R_lt ho ad6.block rfl)
      have HFd := Aside0.mk (show Rb w3.drew (some ad6) [f] from Kd.C_drew hr6)
      have HLd := Aside0.mk (rleft_below hl (below_drew1 (Below.refl _ _)))
      clear ho hl hc6 hr6
      go_wp2_with (fail)
      refine wp_region_held_drew (S := fun V => V.cell? ad6 = some (.int .u8 f)) (by kernel_rfl) (rb_one HFd.out) (fun hHeld => ?_)
      (refine wpAnyH_take (i := 0) (v := ?_) rfl (by kernel_rfl) (by kernel_rfl) (by kernel_rfl) (fun _ _ _ h => h) (Or.inl ⟨by rfl, ?_⟩) (by assumption) ?_; (case' refine_2 => (intro w hSw; go_simp; try with_reducible rfl)); (try simp only [Act.put, List.getElem_toArray, List.getElem_cons_zero, List.getElem_cons_succ, List.setIfInBounds_toArray, List.set_cons_zero, List.set_cons_succ]))
      (refine wpAnyH_take (i := 1) (v := ?_) rfl (by kernel_rfl) (by kernel_rfl) (by kernel_rfl) (fun _ _ _ h => h) (Or.inl ⟨by rfl, ?_⟩) (by assumption) ?_; (case' refine_2 => (intro w hSw; go_simp; try with_reducible rfl)); (try simp only [Act.put, List.getElem_toArray, List.getElem_cons_zero, List.getElem_cons_succ, List.setIfInBounds_toArray, List.set_cons_zero, List.set_cons_succ]))
      (refine wpAnyH_take (i := 2) (v := ?_) rfl (by kernel_rfl) (by kernel_rfl) (by kernel_rfl) (fun _ _ _ h => h) (Or.inl ⟨by rfl, ?_⟩) (by assumption) ?_; (case' refine_2 => (intro w hSw; go_simp; try with_reducible rfl)); (try simp only [Act.put, List.getElem_toArray, List.getElem_cons_zero, List.getElem_cons_succ, List.setIfInBounds_toArray, List.set_cons_zero, List.set_cons_succ]))
      (refine wpAnyH_take (i := 4) (v := ?_) rfl (by kernel_rfl) (by kernel_rfl) (by kernel_rfl) (fun _ _ _ h => h) (Or.inl ⟨by rfl, ?_⟩) (by assumption) ?_; (case' refine_2 => (intro w hSw; go_simp; try with_reducible rfl)); (try simp only [Act.put, List.getElem_toArray, List.getElem_cons_zero, List.getElem_cons_succ, List.setIfInBounds_toArray, List.set_cons_zero, List.set_cons_succ]))
      (refine wpAnyH_take (i := 6) (v := ?_) rfl (by kernel_rfl) (by kernel_rfl) (by kernel_rfl) (fun _ _ _ h => h) (Or.inl ⟨by rfl, ?_⟩) (by assumption) ?_; (case' refine_2 => (intro w hSw; go_simp; try with_reducible rfl)); (try simp only [Act.put, List.getElem_toArray, List.getElem_cons_zero, List.getElem_cons_succ, List.setIfInBounds_toArray, List.set_cons_zero, List.set_cons_succ]))
      (refine wpAnyH_take (i := 8) (v := ?_) rfl (by kernel_rfl) (by kernel_rfl) (by kernel_rfl) (fun _ _ _ h => h) (Or.inl ⟨by rfl, ?_⟩) (by assumption) ?_; (case' refine_2 => (intro w hSw; go_simp; try with_reducible rfl)); (try simp only [Act.put, List.getElem_toArray, List.getElem_cons_zero, List.getElem_cons_succ, List.setIfInBounds_toArray, List.set_cons_zero, List.set_cons_succ]))
      (refine wpAnyH_take (i := 9) (v := ?_) rfl (by kernel_rfl) (by kernel_rfl) (by kernel_rfl) (fun _ _ _ h => h) (Or.inl ⟨by rfl, ?_⟩) (by assumption) ?_; (case' refine_2 => (intro w hSw; go_simp; try with_reducible rfl)); (try simp only [Act.put, List.getElem_toArray, List.getElem_cons_zero, List.getElem_cons_succ, List.setIfInBounds_toArray, List.set_cons_zero, List.set_cons_succ]))
      (refine wpAnyH_take (i := 10) (v := ?_) rfl (by kernel_rfl) (by kernel_rfl) (by kernel_rfl) (fun _ _ _ h => h) (Or.inl ⟨by rfl, ?_⟩) (by assumption) ?_; (case' refine_2 => (intro w hSw; go_simp; try with_reducible rfl)); (try simp only [Act.put, List.getElem_toArray, List.getElem_cons_zero, List.getElem_cons_succ, List.setIfInBounds_toArray, List.set_cons_zero, List.set_cons_succ]))
      (refine wpAnyH_take (i := 11) (v := ?_) rfl (by kernel_rfl) (by kernel_rfl) (by kernel_rfl) (fun _ _ _ h => h) (Or.inl ⟨by rfl, ?_⟩) (by assumption) ?_; (case' refine_2 => (intro w hSw; go_simp; try with_reducible rfl)); (try simp only [Act.put, List.getElem_toArray, List.getElem_cons_zero, List.getElem_cons_succ, List.setIfInBounds_toArray, List.set_cons_zero, List.set_cons_succ]))
      refine wpAnyH_ready (rs := [3, 13]) (by kernel_rfl) (by simp) (AllReadyH.cons rfl (fun K hK => ?_) (AllReadyH.cons rfl (fun K hK => ?_) AllReadyH.nil))
      · go_simp
        refine (HHD.out _ HLd.out).mono ?_
        rintro e zz1 ⟨rfl, hl⟩
        replace hl : Rf.Left w w3.drew zz1 g (some b1) := ⟨HLd.out.1.below hl, below_step HLd.out.2.1 hl, KeepBut.of_below hl g none⟩
        have HL_1 := Aside0.mk (HLd.out.trans hl)
        have HF_1 := Aside0.mk (rrb_step HFd.out HLd.out.1 hl.2.2)
        have HFB_1 := Aside0.mk (show ad6.block < zz1.heap.size from Nat.lt_of_lt_of_le HFBd.out hl.2.2.1)
        clear hl
        (refine Shut.out hK _ _ (rb_one HF_1.out) (fun hHeld => ?_); clear hK K; (try simp only [Act.put, List.getElem_toArray, List.getElem_cons_zero, List.getElem_cons_succ, List.setIfInBounds_toArray, List.set_cons_zero, List.set_cons_succ]))
        refine wpAnyH_ready (rs := [5, 13]) (by kernel_rfl) (by simp) (AllReadyH.cons rfl (fun K hK => ?_) (AllReadyH.cons rfl (fun K hK => ?_) AllReadyH.nil))
        · go_simp
          refine (HSUM.out _ HL_1.out).mono ?_
          rintro e zz2 ⟨rfl, hl⟩
          have HL_2 := Aside0.mk (HL_1.out.trans hl)
          have HF_2 := Aside0.mk (rrb_step HF_1.out HL_1.out.1 hl.2.2)
          have HFB_2 := Aside0.mk (show ad6.block < zz2.heap.size from Nat.lt_of_lt_of_le HFB_1.out hl.2.2.1)
          clear hl
          (refine Shut.out hK _ _ (rb_one HF_2.out) (fun hHeld => ?_); clear hK K; (try simp only [Act.put, List.getElem_toArray, List.getElem_cons_zero, List.getElem_cons_succ, List.setIfInBounds_toArray, List.set_cons_zero, List.set_cons_succ]))
          refine wpAnyH_ready (rs := [7, 13]) (by kernel_rfl) (by simp) (AllReadyH.cons rfl (fun K hK => ?_) (AllReadyH.cons rfl (fun K hK => ?_) AllReadyH.nil))
          · go_simp
            refine (HNUM.out _ HL_2.out).mono ?_
            rintro e zz3 ⟨rfl, hl⟩
            have HL_3 := Aside0.mk (HL_2.out.trans hl)
            have HF_3 := Aside0.mk (rrb_step HF_2.out HL_2.out.1 hl.2.2)
            have HFB_3 := Aside0.mk (show ad6.block < zz3.heap.size from Nat.lt_of_lt_of_le HFB_2.out hl.2.2.1)
            clear hl
            (refine Shut.out hK _ _ (rb_one HF_3.out) (fun hHeld => ?_); clear hK K; (try simp only [Act.put, List.getElem_toArray, List.getElem_cons_zero, List.getElem_cons_succ, List.setIfInBounds_toArray, List.set_cons_zero, List.set_cons_succ]))
            (refine wpAnyH_take (i := 12) rfl (by kernel_rfl) (by kernel_rfl) (by kernel_rfl) (fun _ _ _ h => h) (yieldsIf_new5 (by rfl) (.tmp 29) (.tmp 31) (.tmp 33) (.tmp 35) (.tmp 39) rfl (l.length : Int) sl P C HLP.out.1 HLP.out.2 fb rfl rfl rfl rfl rfl) (by assumption) ?_; (try simp only [Act.put, List.getElem_toArray, List.getElem_cons_zero, List.getElem_cons_succ, List.setIfInBounds_toArray, List.set_cons_zero, List.set_cons_succ]))
            refine wpAnyH_ready (rs := [13]) (by kernel_rfl) (by simp) (AllReadyH.cons rfl (fun K hK => ?_) AllReadyH.nil)
            · rw [if_pos (by rfl)]
              refine wp_alloc_e rfl ?_
              have hb := (below_alloc (Below.refl zz3.heap.size zz3) (.cells zE.toArray 27))
              have H9_4 := Aside0.mk (show (zz3.alloc (.cells zE.toArray 27)).heap[zz3.heap.size]? = some (.cells zE.toArray 27 (0, 0)) from blk_new _ _)
              have HL_4 := Aside0.mk (rleft_below HL_3.out hb)
              have HF_4 := Aside0.mk (show Rb (zz3.alloc (.cells zE.toArray 27)) (some ad6) [f] from Kd.C_below HF_3.out hb)
              have HFN_4 := Aside0.mk (show ad6.block ≠ zz3.heap.size from Nat.ne_of_lt HFB_3.out)
              have HN_4 := Aside0.mk (show W.heap.size ≤ zz3.heap.size from HL_3.out.2.2.1)
              obtain ⟨zz4, hw_⟩ : ∃ W_, zz3.alloc (.cells zE.toArray 27) = W_ := ⟨_, rfl⟩
              obtain ⟨g9, hg_⟩ : ∃ g_, zz3.heap.size = g_ := ⟨_, rfl⟩
              clear hb
              rw [hw_, hg_] at H9_4
              rw [hg_] at HFN_4 HN_4
              rw [hw_] at HL_4 HF_4
              rw [hw_, hg_]
              clear hw_ hg_
              (refine Shut.out hK _ _ (rb_one HF_4.out) (fun hHeld => ?_); clear hK K; (try simp only [Act.put, List.getElem_toArray, List.getElem_cons_zero, List.getElem_cons_succ, List.setIfInBounds_toArray, List.set_cons_zero, List.set_cons_succ]))
              refine wpAnyH_ready (rs := [14]) (by kernel_rfl) (by simp) (AllReadyH.cons rfl (fun K hK => ?_) AllReadyH.nil)
              rw [if_pos (by rfl)]
              refine wp_store_row 27 (.tmp 7) (.tmp 40) rfl g9 (cellsE (l.length : Int) P C sl none 0 0 fb).toArray rfl rfl 27 zE.toArray H9_4.out HCI.out.1 HCI.out.2.1 HCI.out.2.2 ?_
              have hg := grown_setRow zz4 g9 (cellsE (l.length : Int) P C sl none 0 0 fb).toArray
              have HL8 := Aside0.mk (rleft_grown HL_4.out (below_setRow (Below.refl _ _) HN_4.out _) hg (fun b e => by injection e with e; subst e; have := HN_4.out; have := HG.out; exact ⟨by omega, by have := HI.out.bl.size; omega⟩) HI.out.bl.size)
              have HF8 := Aside0.mk (rb_row HF_4.out hg (fun ad e => by cases e; exact HFN_4.out))
              have HX8 := Aside0.mk (setRow_heap zz4 g9 zE.toArray (cellsE (l.length : Int) P C sl none 0 0 fb).toArray _ _ H9_4.out)
              have HFN := HFN_4
              have HN9 := HN_4
              obtain ⟨w8, hw_⟩ : ∃ W_, zz4.setRow g9 (cellsE (l.length : Int) P C sl none 0 0 fb).toArray = W_ := ⟨_, rfl⟩
              rw [hw_] at HL8 HF8 HX8
              rw [hw_]
              clear hw_ hg
              (refine Shut.out hK _ _ (rb_one HF8.out) (fun hHeld => ?_); clear hK K; (try simp only [Act.put, List.getElem_toArray, List.getElem_cons_zero, List.getElem_cons_succ, List.setIfInBounds_toArray, List.set_cons_zero, List.set_cons_succ]))
              refine wpAnyH_done (by kernel_rfl) ?_ _
              clear hHeld
              go_wp2_with (fail)
              refine (HTXT.out _ HL8.out).mono ?_
              rintro e w9 ⟨v, rfl, ho, hl⟩
              obtain ⟨AY, cY, rfl⟩ := Kd.R_slice ho
              have HL9 := Aside0.mk (HL8.out.trans hl)
              have HX9 := Aside0.mk (hl.2.2.blk HX8.out (by have := HG.out; have := HN9.out; omega) (by simp))
              have HY9 := Aside0.mk (show Kd.R (Kd.int .u8) 5 w9 W.heap.size (fun k => k ≠ g9) (.slice AY py.length cY) py from Kd.R_lower (Kd.R_mono (Kd.R_bound ho) (fun k hk => by have h1 := hk.2.1; have h2 := blk_lt HX8.out; omega)) HL8.out.2.2.1)
              have HF9 := Aside0.mk (rrb_step HF8.out HL8.out.1 hl.2.2)
              clear ho hl
              have c66 : w9.cell? ⟨g9, 66, none⟩ = some (.slice none 0 0) := (entAt_blk (x := ((l.length : Int), headT l, cm, sl, [], fb)) HLP.out.1 HLP.out.2 HX9.out).py
              have f66 := blk_frozen HX9.out 66
              have HX9b := Aside0.mk (blk_set HX9.out 66 (.slice AY py.length cY))
              rw [List.setIfInBounds_toArray, set_pay (l.length : Int) sl P C HLP.out.1 HLP.out.2] at HX9b
              have hg := grown_setCell w9 g9 66 (.slice AY py.length cY)
              have HLa := Aside0.mk (rleft_grown HL9.out (show Below W.heap.size w9 (w9.setCell ⟨g9, 66, none⟩ (.slice AY py.length cY)) from ⟨rfl, rfl, rfl, by simp [World.setCell], fun k hk => Below.heap_setCell w9 ⟨g9, 66, none⟩ (.slice AY py.length cY) k (by have := HN9.out; dsimp only; omega)⟩) hg (fun b_ e => by injection e with e; subst e; have := HG.out; have := HN9.out; have := HI.out.bl.size; exact ⟨by omega, by omega⟩) HI.out.bl.size)
              have HYa := Aside0.mk (Kd.R_grown HY9.out hg (fun k hk e => hk (by injection e)))
              have HFa := Aside0.mk (rb_row HF9.out hg (fun ad e => by cases e; exact HFN.out))
              clear hg
              go_upto_region 7 with (fail)
              obtain ⟨wa, hw_⟩ : ∃ W_, w9.setCell ⟨g9, 66, none⟩ (.slice AY py.length cY) = W_ := ⟨_, rfl⟩
              rw [hw_] at HX9b HLa HYa HFa
              rw [hw_]
              clear hw_ c66 f66
              have hf1 := HLa.out.1.fail.1
              have hf2 := HLa.out.1.fail.2
              have hc6 := rb_one HFa.out
              cases st4 with
              | none =>
                simp only [Option.isSome_none, Bool.not_false] at hf1
                have HGC := Aside0.mk (show getC b = ([], 2) from by rw [← HI.out.eq, getN_no H32.out HI.out.fu HE.out])
                go_wp2_with (fail)
                go_ret2
                refine ⟨.slice none 0 0, by rw [HGC.out]; first | done | rfl, ?_, HLa.out.2.1⟩
                rw [HGC.out]
                exact Kd.R_nil _ _ _ _ _
              | some r4 =>
                simp only [Option.isSome_some, Bool.not_true] at hf1
                have HE := Aside0.mk (show readE (some (f :: b1)) (l.length : Int) (headT l) = if 1 < f then none else if rightT ((l.length : Int), headT l, cm, sl, py, fb) then some (((l.length : Int), headT l, cm, sl, py, fb), r4) else none from HE.out)
                by_cases h1 : 1 < f
                · have q1_ : decide (1 < f) = true := decide_eq_true h1
                  have HGC := Aside0.mk (show getC b = ([], 2) from by rw [← HI.out.eq, getN_no H32.out HI.out.fu (by rw [HE.out, if_pos h1])])
                  clear h1
                  go_wp2_with (fail)
                  go_ret2
                  refine ⟨.slice none 0 0, by rw [HGC.out]; first | done | rfl, ?_, HLa.out.2.1⟩
                  rw [HGC.out]
                  exact Kd.R_nil _ _ _ _ _
                · have q1_ : decide (1 < f) = false := decide_eq_false h1
                  rw [if_neg h1] at HE
                  clear h1
                  obtain ⟨m9_, r9_⟩ := (Kd.R_reads' HYa.out).2
                  have HCa := Aside0.mk (show EntC wa ((l.length : Int), headT l, cm, sl, py, fb) P C AY cY from ⟨HPC.out.1, HPC.out.2, m9_, r9_⟩)
                  clear m9_ r9_
                  have HRT := Aside0.mk (fun V (hV : Below wa.heap.size wa V) => rright1_c ((l.length : Int), headT l, cm, sl, py, fb) HEU.out (Nat.le_trans HPL.out (by decide)) P C AY cY V (HCa.out.below hV))
                  unfold RetB at HRT
                  have HAa := Aside0.mk (atC_blk HX9b.out)
                  have HCL := Aside0.mk (show (Try.prog.info? 27).map (·.size) = some (cellsE (l.length : Int) P C sl AY py.length cY fb).length from HCa.out.info)
                  obtain ⟨rb, hrb⟩ : ∃ t, rightT ((l.length : Int), headT l, cm, sl, py, fb) = t := ⟨_, rfl⟩
                  rw [hrb] at HRT HE
                  clear hrb
                  have HXM := Aside0.mk (fun (V : World) (base : Nat) (ok : Nat → Prop) (hO : Kd.R (Kd.int .u8) 5 V base ok (.slice AY py.length cY) py) => show DEnt.M V base ok ((l.length : Int), headT l, cm, sl, py, fb) (cellsE (l.length : Int) P C sl AY py.length cY fb) from ent_mkM (x := ((l.length : Int), headT l, cm, sl, py, fb)) HPC.out.1 HPC.out.2 hO)
                  have HXO := Aside0.mk (show (cellsE (l.length : Int) P C sl AY py.length cY fb).toArray.all (·.oneCell') = true from HCa.out.one)
                  have HXLEN := Aside0.mk (show (cellsE (l.length : Int) P C sl AY py.length cY fb).length = 68 from HCa.out.len)
                  have HRT := Aside0.mk (fun V hV => show Calls Try.prog 56 #[.agg (cellsE (l.length : Int) P C sl AY py.length cY fb).toArray] V _ from HRT.out V hV)
                  obtain ⟨X, hX⟩ : ∃ t, cellsE (l.length : Int) P C sl AY py.length cY fb = t := ⟨_, rfl⟩
                  rw [hX] at HX9b HAa HCL HRT HXM HXO HXLEN
                  clear hX
                  go_wp2_with ((with_reducible refine gate_dst (N := 55) rfl ?_); (try (refine gate_guard (by rfl) ?_; dsimp only)); refine wpList_load_at rfl 27 (.tmp 7) rfl ⟨g9, 0, none⟩ rfl X _ HAa.out Try.underlying27 rfl HCL.out ?_)
                  refine (HRT.out _ (Below.refl _ _)).mono ?_
                  rintro e wb ⟨rfl, hb⟩
                  have HLb := Aside0.mk (rleft_below HLa.out hb)
                  have HAb := Aside0.mk (HAa.out.below hb)
                  have HYb := Aside0.mk (Kd.R_below HYa.out hb)
                  clear hb hf1 hf2 hc6
                  cases rb with
                  | false =>
                    have HGC := Aside0.mk (show getC b = ([], 2) from by rw [← HI.out.eq, getN_no H32.out HI.out.fu (by rw [HE.out]; rfl)])
                    go_wp2_with (fail)
                    go_ret2
                    refine ⟨.slice none 0 0, by rw [HGC.out]; first | done | rfl, ?_, HLb.out.2.1⟩
                    rw [HGC.out]
                    exact Kd.R_nil _ _ _ _ _
                  | true =>
                    have HE := Aside0.mk (show readE (some (f :: b1)) (l.length : Int) (headT l) = some (((l.length : Int), headT l, cm, sl, py, fb), r4) from HE.out)
                    by_cases h120 : 120 ≤ l.length
                    · have q3 : decide ((120 : Int) ≤ (l.length : Int)) = true := decide_eq_true (by omega)
                      have q4 : decide (120 ≤ l.length) = true := decide_eq_true h120
                      have HGC := Aside0.mk (show getC b = ([], 2) from by rw [← HI.out.eq, getN_many H32.out HI.out.fu HE.out h120])
                      clear h120
                      go_wp2_with (fail)
                      go_ret2
                      refine ⟨.slice none 0 0, by rw [HGC.out]; first | done | rfl, ?_, HLb.out.2.1⟩
                      rw [HGC.out]
                      exact Kd.R_nil _ _ _ _ _
                    · have q3 : decide ((120 : Int) ≤ (l.length : Int)) = false := decide_eq_false (by omega)
                      have q4 : decide (120 ≤ l.length) = false := decide_eq_false h120
                      have H120 := Aside0.mk h120
                      clear h120
                      have HM5 := Aside0.mk (HXM.out wb (g + 1) (fun k => W.heap.size ≤ k) (Kd.R_lower (Kd.R_mono (Kd.R_bound HYb.out) (fun k hk => hk.2.1)) (show g + 1 ≤ W.heap.size from HG.out)))
                      have HRb := Aside0.mk (HROW.out wb HLb.out.2.2)
                      have HZb := Aside0.mk (show g + 1 ≤ wb.heap.size from Nat.le_trans (show g + 1 ≤ W.heap.size from HG.out) HLb.out.2.2.1)
                      have HN3 := Aside0.mk (show ∀ k, some k = (Value.slice AL l.length cL).ownBlock → k < W.heap.size from fun k e => Kd.R_lt HI.out.row k e.symm)
                      go_wp2_with (first
                          | ((with_reducible refine gate_dst (N := 65) rfl ?_); refine wpList_load_at rfl 27 (.tmp 7) rfl ⟨g9, 0, none⟩ rfl X _ HAb.out Try.underlying27 rfl HCL.out ?_)
                          | ((with_reducible refine gate_dst (N := 66) rfl ?_); refine wpList_ent1 rfl (.tmp 65) rfl X rfl HXLEN.out ?_)
                          | ((with_reducible refine gate_builtin (b := .append) (xs := #[.tmp 64, .tmp 66]) rfl ?_); at_builtin; refine Kd.R_append DEnt (w0 := wb) (g + 1) rfl (.tmp 64) (.tmp 66) 22 27 (.agg Try.zeroCells27) 112 rfl Try.underlying22 info_entZ rfl (by decide) (by decide) _ l ((l.length : Int), headT l, cm, sl, py, fb) X (fun _ => True) (fun k => W.heap.size ≤ k) rfl rfl HM5.out (fun k hk => ⟨trivial, fun e => by have := HN3.out k e; omega⟩) (fun _ _ => trivial) HRb.out (Below.refl _ _) HZb.out (by have := HI.out.len; omega) ?_; intro v6 w6 ho hb hg hat; have HR6 := Aside0.mk (show Rg w6 (g + 1) v6 (l ++ [((l.length : Int), headT l, cm, sl, py, fb)]) from ho); have HB6 := Aside0.mk hb; have HG6 := Aside0.mk (show wb.grownBy w6 (Value.slice AL l.length cL).ownBlock from hg); clear ho hb hg hat))
                      obtain ⟨A6_, c6_, rfl⟩ := Kd.R_slice HR6.out
                      have HRD6 := Aside0.mk (show RfO w w6 g (some r4) from HLb.out.1.grown HG6.out (fun b e => by have := Kd.R_base HRb.out b e; omega))
                      have HBL6 := Aside0.mk (show Below w.heap.size w w6 from HLb.out.2.1.trans (HB6.out.mono (by have := HWG.out; omega)))
                      obtain ⟨n', hn'⟩ : ∃ k, n = k + 1 := ⟨n - 1, by have := HI.out.fu; have := H32.out; omega⟩
                      subst hn'
                      have HI2 := Aside0.mk (HI.out.next H32.out HE.out H120.out HRD6.out HBL6.out HR6.out HEU.out HPL.out)
                      go_roundg n'
                      case measure => have := HQ.out; omega
                      case rel => exact ⟨n', r4, l ++ [((l.length : Int), headT l, cm, sl, py, fb)], rfl, HI2⟩
          · rw [if_pos (by rfl)]
            refine wp_alloc_e rfl ?_
            have hb := (below_alloc (Below.refl zz2.heap.size zz2) (.cells zE.toArray 27))
            have H9_5 := Aside0.mk (show (zz2.alloc (.cells zE.toArray 27)).heap[zz2.heap.size]? = some (.cells zE.toArray 27 (0, 0)) from blk_new _ _)
            have HL_5 := Aside0.mk (rleft_below HL_2.out hb)
            have HF_5 := Aside0.mk (show Rb (zz2.alloc (.cells zE.toArray 27)) (some ad6) [f] from Kd.C_below HF_2.out hb)
            have HFN_5 := Aside0.mk (show ad6.block ≠ zz2.heap.size from Nat.ne_of_lt HFB_2.out)
            have HN_5 := Aside0.mk (show W.heap.size ≤ zz2.heap.size from HL_2.out.2.2.1)
            obtain ⟨zz5, hw_⟩ : ∃ W_, zz2.alloc (.cells zE.toArray 27) = W_ := ⟨_, rfl⟩
            obtain ⟨g9, hg_⟩ : ∃ g_, zz2.heap.size = g_ := ⟨_, rfl⟩
            clear hb
            rw [hw_, hg_] at H9_5
            rw [hg_] at HFN_5 HN_5
            rw [hw_] at HL_5 HF_5
            rw [hw_, hg_]
            clear hw_ hg_
            (refine Shut.out hK _ _ (rb_one HF_5.out) (fun hHeld => ?_); clear hK K; (try simp only [Act.put, List.getElem_toArray, List.getElem_cons_zero, List.getElem_cons_succ, List.setIfInBounds_toArray, List.set_cons_zero, List.set_cons_succ]))
            refine wpAnyH_ready (rs := [7]) (by kernel_rfl) (by simp) (AllReadyH.cons rfl (fun K hK => ?_) AllReadyH.nil)
            · go_simp
              refine (HNUM.out _ HL_5.out).mono ?_
              rintro e zz6 ⟨rfl, hl⟩
              have HL_6 := Aside0.mk (HL_5.out.trans hl)
              have HF_6 := Aside0.mk (rrb_step HF_5.out HL_5.out.1 hl.2.2)
              have H9_6 := Aside0.mk (hl.2.2.blk H9_5.out (by have := HG.out; have := HN_5.out; omega) (by simp))
              clear hl
              (refine Shut.out hK _ _ (rb_one HF_6.out) (fun hHeld => ?_); clear hK K; (try simp only [Act.put, List.getElem_toArray, List.getElem_cons_zero, List.getElem_cons_succ, List.setIfInBounds_toArray, List.set_cons_zero, List.set_cons_succ]))
              (refine wpAnyH_take (i := 12) rfl (by kernel_rfl) (by kernel_rfl) (by kernel_rfl) (fun _ _ _ h => h) (yieldsIf_new5 (by rfl) (.tmp 29) (.tmp 31) (.tmp 33) (.tmp 35) (.tmp 39) rfl (l.length : Int) sl P C HLP.out.1 HLP.out.2 fb rfl rfl rfl rfl rfl) (by assumption) ?_; (try simp only [Act.put, List.getElem_toArray, List.getElem_cons_zero, List.getElem_cons_succ, List.setIfInBounds_toArray, List.set_cons_zero, List.set_cons_succ]))
              refine wpAnyH_ready (rs := [14]) (by kernel_rfl) (by simp) (AllReadyH.cons rfl (fun K hK => ?_) AllReadyH.nil)
              rw [if_pos (by rfl)]
              refine wp_store_row 27 (.tmp 7) (.tmp 40) rfl g9 (cellsE (l.length : Int) P C sl none 0 0 fb).toArray rfl rfl 27 zE.toArray H9_6.out HCI.out.1 HCI.out.2.1 HCI.out.2.2 ?_
              have hg := grown_setRow zz6 g9 (cellsE (l.length : Int) P C sl none 0 0 fb).toArray
              have HL8 := Aside0.mk (rleft_grown HL_6.out (below_setRow (Below.refl _ _) HN_5.out _) hg (fun b e => by injection e with e; subst e; have := HN_5.out; have := HG.out; exact ⟨by omega, by have := HI.out.bl.size; omega⟩) HI.out.bl.size)
              have HF8 := Aside0.mk (rb_row HF_6.out hg (fun ad e => by cases e; exact HFN_5.out))
              have HX8 := Aside0.mk (setRow_heap zz6 g9 zE.toArray (cellsE (l.length : Int) P C sl none 0 0 fb).toArray _ _ H9_6.out)
              have HFN := HFN_5
              have HN9 := HN_5
              obtain ⟨w8, hw_⟩ : ∃ W_, zz6.setRow g9 (cellsE (l.length : Int) P C sl none 0 0 fb).toArray = W_ := ⟨_, rfl⟩
              rw [hw_] at HL8 HF8 HX8
              rw [hw_]
              clear hw_ hg
              (refine Shut.out hK _ _ (rb_one HF8.out) (fun hHeld => ?_); clear hK K; (try simp only [Act.put, List.getElem_toArray, List.getElem_cons_zero, List.getElem_cons_succ, List.setIfInBounds_toArray, List.set_cons_zero, List.set_cons_succ]))
              refine wpAnyH_done (by kernel_rfl) ?_ _
              clear hHeld
              go_wp2_with (fail)
              refine (HTXT.out _ HL8.out).mono ?_
              rintro e w9 ⟨v, rfl, ho, hl⟩
              obtain ⟨AY, cY, rfl⟩ := Kd.R_slice ho
              have HL9 := Aside0.mk (HL8.out.trans hl)
              have HX9 := Aside0.mk (hl.2.2.blk HX8.out (by have := HG.out; have := HN9.out; omega) (by simp))
              have HY9 := Aside0.mk (show Kd.R (Kd.int .u8) 5 w9 W.heap.size (fun k => k ≠ g9) (.slice AY py.length cY) py from Kd.R_lower (Kd.R_mono (Kd.R_bound ho) (fun k hk => by have h1 := hk.2.1; have h2 := blk_lt HX8.out; omega)) HL8.out.2.2.1)
              have HF9 := Aside0.mk (rrb_step HF8.out HL8.out.1 hl.2.2)
              clear ho hl
              have c66 : w9.cell? ⟨g9, 66, none⟩ = some (.slice none 0 0) := (entAt_blk (x := ((l.length : Int), headT l, cm, sl, [], fb)) HLP.out.1 HLP.out.2 HX9.out).py
              have f66 := blk_frozen HX9.out 66
              have HX9b := Aside0.mk (blk_set HX9.out 66 (.slice AY py.length cY))
              rw [List.setIfInBounds_toArray, set_pay (l.length : Int) sl P C HLP.out.1 HLP.out.2] at HX9b
              have hg := grown_setCell w9 g9 66 (.slice AY py.length cY)
              have HLa := Aside0.mk (rleft_grown HL9.out (show Below W.heap.size w9 (w9.setCell ⟨g9, 66, none⟩ (.slice AY py.length cY)) from ⟨rfl, rfl, rfl, by simp [World.setCell], fun k hk => Below.heap_setCell w9 ⟨g9, 66, none⟩ (.slice AY py.length cY) k (by have := HN9.out; dsimp only; omega)⟩) hg (fun b_ e => by injection e with e; subst e; have := HG.out; have := HN9.out; have := HI.out.bl.size; exact ⟨by omega, by omega⟩) HI.out.bl.size)
              have HYa := Aside0.mk (Kd.R_grown HY9.out hg (fun k hk e => hk (by injection e)))
              have HFa := Aside0.mk (rb_row HF9.out hg (fun ad e => by cases e; exact HFN.out))
              clear hg
              go_upto_region 7 with (fail)
              obtain ⟨wa, hw_⟩ : ∃ W_, w9.setCell ⟨g9, 66, none⟩ (.slice AY py.length cY) = W_ := ⟨_, rfl⟩
              rw [hw_] at HX9b HLa HYa HFa
              rw [hw_]
              clear hw_ c66 f66
              have hf1 := HLa.out.1.fail.1
              have hf2 := HLa.out.1.fail.2
              have hc6 := rb_one HFa.out
              cases st4 with
              | none =>
                simp only [Option.isSome_none, Bool.not_false] at hf1
                have HGC := Aside0.mk (show getC b = ([], 2) from by rw [← HI.out.eq, getN_no H32.out HI.out.fu HE.out])
                go_wp2_with (fail)
                go_ret2
                refine ⟨.slice none 0 0, by rw [HGC.out]; first | done | rfl, ?_, HLa.out.2.1⟩
                rw [HGC.out]
                exact Kd.R_nil _ _ _ _ _
              | some r4 =>
                simp only [Option.isSome_some, Bool.not_true] at hf1
                have HE := Aside0.mk (show readE (some (f :: b1)) (l.length : Int) (headT l) = if 1 < f then none else if rightT ((l.length : Int), headT l, cm, sl, py, fb) then some (((l.length : Int), headT l, cm, sl, py, fb), r4) else none from HE.out)
                by_cases h1 : 1 < f
                · have q1_ : decide (1 < f) = true := decide_eq_true h1
                  have HGC := Aside0.mk (show getC b = ([], 2) from by rw [← HI.out.eq, getN_no H32.out HI.out.fu (by rw [HE.out, if_pos h1])])
                  clear h1
                  go_wp2_with (fail)
                  go_ret2
                  refine ⟨.slice none 0 0, by rw [HGC.out]; first | done | rfl, ?_, HLa.out.2.1⟩
                  rw [HGC.out]
                  exact Kd.R_nil _ _ _ _ _
                · have q1_ : decide (1 < f) = false := decide_eq_false h1
                  rw [if_neg h1] at HE
                  clear h1
                  obtain ⟨m9_, r9_⟩ := (Kd.R_reads' HYa.out).2
                  have HCa := Aside0.mk (show EntC wa ((l.length : Int), headT l, cm, sl, py, fb) P C AY cY from ⟨HPC.out.1, HPC.out.2, m9_, r9_⟩)
                  clear m9_ r9_
                  have HRT := Aside0.mk (fun V (hV : Below wa.heap.size wa V) => rright1_c ((l.length : Int), headT l, cm, sl, py, fb) HEU.out (Nat.le_trans HPL.out (by decide)) P C AY cY V (HCa.out.below hV))
                  unfold RetB at HRT
                  have HAa := Aside0.mk (atC_blk HX9b.out)
                  have HCL := Aside0.mk (show (Try.prog.info? 27).map (·.size) = some (cellsE (l.length : Int) P C sl AY py.length cY fb).length from HCa.out.info)
                  obtain ⟨rb, hrb⟩ : ∃ t, rightT ((l.length : Int), headT l, cm, sl, py, fb) = t := ⟨_, rfl⟩
                  rw [hrb] at HRT HE
                  clear hrb
                  have HXM := Aside0.mk (fun (V : World) (base : Nat) (ok : Nat → Prop) (hO : Kd.R (Kd.int .u8) 5 V base ok (.slice AY py.length cY) py) => show DEnt.M V base ok ((l.length : Int), headT l, cm, sl, py, fb) (cellsE (l.length : Int) P C sl AY py.length cY fb) from ent_mkM (x := ((l.length : Int), headT l, cm, sl, py, fb)) HPC.out.1 HPC.out.2 hO)
                  have HXO := Aside0.mk (show (cellsE (l.length : Int) P C sl AY py.length cY fb).toArray.all (·.oneCell') = true from HCa.out.one)
                  have HXLEN := Aside0.mk (show (cellsE (l.length : Int) P C sl AY py.length cY fb).length = 68 from HCa.out.len)
                  have HRT := Aside0.mk (fun V hV => show Calls Try.prog 56 #[.agg (cellsE (l.length : Int) P C sl AY py.length cY fb).toArray] V _ from HRT.out V hV)
                  obtain ⟨X, hX⟩ : ∃ t, cellsE (l.length : Int) P C sl AY py.length cY fb = t := ⟨_, rfl⟩
                  rw [hX] at HX9b HAa HCL HRT HXM HXO HXLEN
                  clear hX
                  go_wp2_with ((with_reducible refine gate_dst (N := 55) rfl ?_); (try (refine gate_guard (by rfl) ?_; dsimp only)); refine wpList_load_at rfl 27 (.tmp 7) rfl ⟨g9, 0, none⟩ rfl X _ HAa.out Try.underlying27 rfl HCL.out ?_)
                  refine (HRT.out _ (Below.refl _ _)).mono ?_
                  rintro e wb ⟨rfl, hb⟩
                  have HLb := Aside0.mk (rleft_below HLa.out hb)
                  have HAb := Aside0.mk (HAa.out.below hb)
                  have HYb := Aside0.mk (Kd.R_below HYa.out hb)
                  clear hb hf1 hf2 hc6
                  cases rb with
                  | false =>
                    have HGC := Aside0.mk (show getC b = ([], 2) from by rw [← HI.out.eq, getN_no H32.out HI.out.fu (by rw [HE.out]; rfl)])
                    go_wp2_with (fail)
                    go_ret2
                    refine ⟨.slice none 0 0, by rw [HGC.out]; first | done | rfl, ?_, HLb.out.2.1⟩
                    rw [HGC.out]
                    exact Kd.R_nil _ _ _ _ _
                  | true =>
                    have HE := Aside0.mk (show readE (some (f :: b1)) (l.length : Int) (headT l) = some (((l.length : Int), headT l, cm, sl, py, fb), r4) from HE.out)
                    by_cases h120 : 120 ≤ l.length
                    · have q3 : decide ((120 : Int) ≤ (l.length : Int)) = true := decide_eq_true (by omega)
                      have q4 : decide (120 ≤ l.length) = true := decide_eq_true h120
                      have HGC := Aside0.mk (show getC b = ([], 2) from by rw [← HI.out.eq, getN_many H32.out HI.out.fu HE.out h120])
                      clear h120
                      go_wp2_with (fail)
                      go_ret2
                      refine ⟨.slice none 0 0, by rw [HGC.out]; first | done | rfl, ?_, HLb.out.2.1⟩
                      rw [HGC.out]
                      exact Kd.R_nil _ _ _ _ _
                    · have q3 : decide ((120 : Int) ≤ (l.length : Int)) = false := decide_eq_false (by omega)
                      have q4 : decide (120 ≤ l.length) = false := decide_eq_false h120
                      have H120 := Aside0.mk h120
                      clear h120
                      have HM5 := Aside0.mk (HXM.out wb (g + 1) (fun k => W.heap.size ≤ k) (Kd.R_lower (Kd.R_mono (Kd.R_bound HYb.out) (fun k hk => hk.2.1)) (show g + 1 ≤ W.heap.size from HG.out)))
                      have HRb := Aside0.mk (HROW.out wb HLb.out.2.2)
                      have HZb := Aside0.mk (show g + 1 ≤ wb.heap.size from Nat.le_trans (show g + 1 ≤ W.heap.size from HG.out) HLb.out.2.2.1)
                      have HN3 := Aside0.mk (show ∀ k, some k = (Value.slice AL l.length cL).ownBlock → k < W.heap.size from fun k e => Kd.R_lt HI.out.row k e.symm)
                      go_wp2_with (first
                          | ((with_reducible refine gate_dst (N := 65) rfl ?_); refine wpList_load_at rfl 27 (.tmp 7) rfl ⟨g9, 0, none⟩ rfl X _ HAb.out Try.underlying27 rfl HCL.out ?_)
                          | ((with_reducible refine gate_dst (N := 66) rfl ?_); refine wpList_ent1 rfl (.tmp 65) rfl X rfl HXLEN.out ?_)
                          | ((with_reducible refine gate_builtin (b := .append) (xs := #[.tmp 64, .tmp 66]) rfl ?_); at_builtin; refine Kd.R_append DEnt (w0 := wb) (g + 1) rfl (.tmp 64) (.tmp 66) 22 27 (.agg Try.zeroCells27) 112 rfl Try.underlying22 info_entZ rfl (by decide) (by decide) _ l ((l.length : Int), headT l, cm, sl, py, fb) X (fun _ => True) (fun k => W.heap.size ≤ k) rfl rfl HM5.out (fun k hk => ⟨trivial, fun e => by have := HN3.out k e; omega⟩) (fun _ _ => trivial) HRb.out (Below.refl _ _) HZb.out (by have := HI.out.len; omega) ?_; intro v6 w6 ho hb hg hat; have HR6 := Aside0.mk (show Rg w6 (g + 1) v6 (l ++ [((l.length : Int), headT l, cm, sl, py, fb)]) from ho); have HB6 := Aside0.mk hb; have HG6 := Aside0.mk (show wb.grownBy w6 (Value.slice AL l.length cL).ownBlock from hg); clear ho hb hg hat))
                      obtain ⟨A6_, c6_, rfl⟩ := Kd.R_slice HR6.out
                      have HRD6 := Aside0.mk (show RfO w w6 g (some r4) from HLb.out.1.grown HG6.out (fun b e => by have := Kd.R_base HRb.out b e; omega))
                      have HBL6 := Aside0.mk (show Below w.heap.size w w6 from HLb.out.2.1.trans (HB6.out.mono (by have := HWG.out; omega)))
                      obtain ⟨n', hn'⟩ : ∃ k, n = k + 1 := ⟨n - 1, by have := HI.out.fu; have := H32.out; omega⟩
                      subst hn'
                      have HI2 := Aside0.mk (HI.out.next H32.out HE.out H120.out HRD6.out HBL6.out HR6.out HEU.out HPL.out)
                      go_roundg n'
                      case measure => have := HQ.out; omega
                      case rel => exact ⟨n', r4, l ++ [((l.length : Int), headT l, cm, sl, py, fb)], rfl, HI2⟩
        · rw [if_pos (by rfl)]
          refine wp_alloc_e rfl ?_
          have hb := (below_alloc (Below.refl zz1.heap.size zz1) (.cells zE.toArray 27))
          have H9_7 := Aside0.mk (show (zz1.alloc (.cells zE.toArray 27)).heap[zz1.heap.size]? = some (.cells zE.toArray 27 (0, 0)) from blk_new _ _)
          have HL_7 := Aside0.mk (rleft_below HL_1.out hb)
          have HF_7 := Aside0.mk (show Rb (zz1.alloc (.cells zE.toArray 27)) (some ad6) [f] from Kd.C_below HF_1.out hb)
          have HFN_7 := Aside0.mk (show ad6.block ≠ zz1.heap.size from Nat.ne_of_lt HFB_1.out)
          have HN_7 := Aside0.mk (show W.heap.size ≤ zz1.heap.size from HL_1.out.2.2.1)
          obtain ⟨zz7, hw_⟩ : ∃ W_, zz1.alloc (.cells zE.toArray 27) = W_ := ⟨_, rfl⟩
          obtain ⟨g9, hg_⟩ : ∃ g_, zz1.heap.size = g_ := ⟨_, rfl⟩
          clear hb
          rw [hw_, hg_] at H9_7
          rw [hg_] at HFN_7 HN_7
          rw [hw_] at HL_7 HF_7
          rw [hw_, hg_]
          clear hw_ hg_
          (refine Shut.out hK _ _ (rb_one HF_7.out) (fun hHeld => ?_); clear hK K; (try simp only [Act.put, List.getElem_toArray, List.getElem_cons_zero, List.getElem_cons_succ, List.setIfInBounds_toArray, List.set_cons_zero, List.set_cons_succ]))
          refine wpAnyH_ready (rs := [5]) (by kernel_rfl) (by simp) (AllReadyH.cons rfl (fun K hK => ?_) AllReadyH.nil)
          · go_simp
            refine (HSUM.out _ HL_7.out).mono ?_
            rintro e zz8 ⟨rfl, hl⟩
            have HL_8 := Aside0.mk (HL_7.out.trans hl)
            have HF_8 := Aside0.mk (rrb_step HF_7.out HL_7.out.1 hl.2.2)
            have H9_8 := Aside0.mk (hl.2.2.blk H9_7.out (by have := HG.out; have := HN_7.out; omega) (by simp))
            clear hl
            (refine Shut.out hK _ _ (rb_one HF_8.out) (fun hHeld => ?_); clear hK K; (try simp only [Act.put, List.getElem_toArray, List.getElem_cons_zero, List.getElem_cons_succ, List.setIfInBounds_toArray, List.set_cons_zero, List.set_cons_succ]))
            refine wpAnyH_ready (rs := [7]) (by kernel_rfl) (by simp) (AllReadyH.cons rfl (fun K hK => ?_) AllReadyH.nil)
            · go_simp
              refine (HNUM.out _ HL_8.out).mono ?_
              rintro e zz9 ⟨rfl, hl⟩
              have HL_9 := Aside0.mk (HL_8.out.trans hl)
              have HF_9 := Aside0.mk (rrb_step HF_8.out HL_8.out.1 hl.2.2)
              have H9_9 := Aside0.mk (hl.2.2.blk H9_8.out (by have := HG.out; have := HN_7.out; omega) (by simp))
              clear hl
              (refine Shut.out hK _ _ (rb_one HF_9.out) (fun hHeld => ?_); clear hK K; (try simp only [Act.put, List.getElem_toArray, List.getElem_cons_zero, List.getElem_cons_succ, List.setIfInBounds_toArray, List.set_cons_zero, List.set_cons_succ]))
              (refine wpAnyH_take (i := 12) rfl (by kernel_rfl) (by kernel_rfl) (by kernel_rfl) (fun _ _ _ h => h) (yieldsIf_new5 (by rfl) (.tmp 29) (.tmp 31) (.tmp 33) (.tmp 35) (.tmp 39) rfl (l.length : Int) sl P C HLP.out.1 HLP.out.2 fb rfl rfl rfl rfl rfl) (by assumption) ?_; (try simp only [Act.put, List.getElem_toArray, List.getElem_cons_zero, List.getElem_cons_succ, List.setIfInBounds_toArray, List.set_cons_zero, List.set_cons_succ]))
              refine wpAnyH_ready (rs := [14]) (by kernel_rfl) (by simp) (AllReadyH.cons rfl (fun K hK => ?_) AllReadyH.nil)
              rw [if_pos (by rfl)]
              refine wp_store_row 27 (.tmp 7) (.tmp 40) rfl g9 (cellsE (l.length : Int) P C sl none 0 0 fb).toArray rfl rfl 27 zE.toArray H9_9.out HCI.out.1 HCI.out.2.1 HCI.out.2.2 ?_
              have hg := grown_setRow zz9 g9 (cellsE (l.length : Int) P C sl none 0 0 fb).toArray
              have HL8 := Aside0.mk (rleft_grown HL_9.out (below_setRow (Below.refl _ _) HN_7.out _) hg (fun b e => by injection e with e; subst e; have := HN_7.out; have := HG.out; exact ⟨by omega, by have := HI.out.bl.size; omega⟩) HI.out.bl.size)
              have HF8 := Aside0.mk (rb_row HF_9.out hg (fun ad e => by cases e; exact HFN_7.out))
              have HX8 := Aside0.mk (setRow_heap zz9 g9 zE.toArray (cellsE (l.length : Int) P C sl none 0 0 fb).toArray _ _ H9_9.out)
              have HFN := HFN_7
              have HN9 := HN_7
              obtain ⟨w8, hw_⟩ : ∃ W_, zz9.setRow g9 (cellsE (l.length : Int) P C sl none 0 0 fb).toArray = W_ := ⟨_, rfl⟩
              rw [hw_] at HL8 HF8 HX8
              rw [hw_]
              clear hw_ hg
              (refine Shut.out hK _ _ (rb_one HF8.out) (fun hHeld => ?_); clear hK K; (try simp only [Act.put, List.getElem_toArray, List.getElem_cons_zero, List.getElem_cons_succ, List.setIfInBounds_toArray, List.set_cons_zero, List.set_cons_succ]))
              refine wpAnyH_done (by kernel_rfl) ?_ _
              clear hHeld
              go_wp2_with (fail)
              refine (HTXT.out _ HL8.out).mono ?_
              rintro e w9 ⟨v, rfl, ho, hl⟩
              obtain ⟨AY, cY, rfl⟩ := Kd.R_slice ho
              have HL9 := Aside0.mk (HL8.out.trans hl)
              have HX9 := Aside0.mk (hl.2.2.blk HX8.out (by have := HG.out; have := HN9.out; omega) (by simp))
              have HY9 := Aside0.mk (show Kd.R (Kd.int .u8) 5 w9 W.heap.size (fun k => k ≠ g9) (.slice AY py.length cY) py from Kd.R_lower (Kd.R_mono (Kd.R_bound ho) (fun k hk => by have h1 := hk.2.1; have h2 := blk_lt HX8.out; omega)) HL8.out.2.2.1)
              have HF9 := Aside0.mk (rrb_step HF8.out HL8.out.1 hl.2.2)
              clear ho hl
              have c66 : w9.cell? ⟨g9, 66, none⟩ = some (.slice none 0 0) := (entAt_blk (x := ((l.length : Int), headT l, cm, sl, [], fb)) HLP.out.1 HLP.out.2 HX9.out).py
              have f66 := blk_frozen HX9.out 66
              have HX9b := Aside0.mk (blk_set HX9.out 66 (.slice AY py.length cY))
              rw [List.setIfInBounds_toArray, set_pay (l.length : Int) sl P C HLP.out.1 HLP.out.2] at HX9b
              have hg := grown_setCell w9 g9 66 (.slice AY py.length cY)
              have HLa := Aside0.mk (rleft_grown HL9.out (show Below W.heap.size w9 (w9.setCell ⟨g9, 66, none⟩ (.slice AY py.length cY)) from ⟨rfl, rfl, rfl, by simp [World.setCell], fun k hk => Below.heap_setCell w9 ⟨g9, 66, none⟩ (.slice AY py.length cY) k (by have := HN9.out; dsimp only; omega)⟩) hg (fun b_ e => by injection e with e; subst e; have := HG.out; have := HN9.out; have := HI.out.bl.size; exact ⟨by omega, by omega⟩) HI.out.bl.size)
              have HYa := Aside0.mk (Kd.R_grown HY9.out hg (fun k hk e => hk (by injection e)))
              have HFa := Aside0.mk (rb_row HF9.out hg (fun ad e => by cases e; exact HFN.out))
              clear hg
              go_upto_region 7 with (fail)
              obtain ⟨wa, hw_⟩ : ∃ W_, w9.setCell ⟨g9, 66, none⟩ (.slice AY py.length cY) = W_ := ⟨_, rfl⟩
              rw [hw_] at HX9b HLa HYa HFa
              rw [hw_]
              clear hw_ c66 f66
              have hf1 := HLa.out.1.fail.1
              have hf2 := HLa.out.1.fail.2
              have hc6 := rb_one HFa.out
              cases st4 with
              | none =>
                simp only [Option.isSome_none, Bool.not_false] at hf1
                have HGC := Aside0.mk (show getC b = ([], 2) from by rw [← HI.out.eq, getN_no H32.out HI.out.fu HE.out])
                go_wp2_with (fail)
                go_ret2
                refine ⟨.slice none 0 0, by rw [HGC.out]; first | done | rfl, ?_, HLa.out.2.1⟩
                rw [HGC.out]
                exact Kd.R_nil _ _ _ _ _
              | some r4 =>
                simp only [Option.isSome_some, Bool.not_true] at hf1
                have HE := Aside0.mk (show readE (some (f :: b1)) (l.length : Int) (headT l) = if 1 < f then none else if rightT ((l.length : Int), headT l, cm, sl, py, fb) then some (((l.length : Int), headT l, cm, sl, py, fb), r4) else none from HE.out)
                by_cases h1 : 1 < f
                · have q1_ : decide (1 < f) = true := decide_eq_true h1
                  have HGC := Aside0.mk (show getC b = ([], 2) from by rw [← HI.out.eq, getN_no H32.out HI.out.fu (by rw [HE.out, if_pos h1])])
                  clear h1
                  go_wp2_with (fail)
                  go_ret2
                  refine ⟨.slice none 0 0, by rw [HGC.out]; first | done | rfl, ?_, HLa.out.2.1⟩
                  rw [HGC.out]
                  exact Kd.R_nil _ _ _ _ _
                · have q1_ : decide (1 < f) = false := decide_eq_false h1
                  rw [if_neg h1] at HE
                  clear h1
                  obtain ⟨m9_, r9_⟩ := (Kd.R_reads' HYa.out).2
                  have HCa := Aside0.mk (show EntC wa ((l.length : Int), headT l, cm, sl, py, fb) P C AY cY from ⟨HPC.out.1, HPC.out.2, m9_, r9_⟩)
                  clear m9_ r9_
                  have HRT := Aside0.mk (fun V (hV : Below wa.heap.size wa V) => rright1_c ((l.length : Int), headT l, cm, sl, py, fb) HEU.out (Nat.le_trans HPL.out (by decide)) P C AY cY V (HCa.out.below hV))
                  unfold RetB at HRT
                  have HAa := Aside0.mk (atC_blk HX9b.out)
                  have HCL := Aside0.mk (show (Try.prog.info? 27).map (·.size) = some (cellsE (l.length : Int) P C sl AY py.length cY fb).length from HCa.out.info)
                  obtain ⟨rb, hrb⟩ : ∃ t, rightT ((l.length : Int), headT l, cm, sl, py, fb) = t := ⟨_, rfl⟩
                  rw [hrb] at HRT HE
                  clear hrb
                  have HXM := Aside0.mk (fun (V : World) (base : Nat) (ok : Nat → Prop) (hO : Kd.R (Kd.int .u8) 5 V base ok (.slice AY py.length cY) py) => show DEnt.M V base ok ((l.length : Int), headT l, cm, sl, py, fb) (cellsE (l.length : Int) P C sl AY py.length cY fb) from ent_mkM (x := ((l.length : Int), headT l, cm, sl, py, fb)) HPC.out.1 HPC.out.2 hO)
                  have HXO := Aside0.mk (show (cellsE (l.length : Int) P C sl AY py.length cY fb).toArray.all (·.oneCell') = true from HCa.out.one)
                  have HXLEN := Aside0.mk (show (cellsE (l.length : Int) P C sl AY py.length cY fb).length = 68 from HCa.out.len)
                  have HRT := Aside0.mk (fun V hV => show Calls Try.prog 56 #[.agg (cellsE (l.length : Int) P C sl AY py.length cY fb).toArray] V _ from HRT.out V hV)
                  obtain ⟨X, hX⟩ : ∃ t, cellsE (l.length : Int) P C sl AY py.length cY fb = t := ⟨_, rfl⟩
                  rw [hX] at HX9b HAa HCL HRT HXM HXO HXLEN
                  clear hX
                  go_wp2_with ((with_reducible refine gate_dst (N := 55) rfl ?_); (try (refine gate_guard (by rfl) ?_; dsimp only)); refine wpList_load_at rfl 27 (.tmp 7) rfl ⟨g9, 0, none⟩ rfl X _ HAa.out Try.underlying27 rfl HCL.out ?_)
                  refine (HRT.out _ (Below.refl _ _)).mono ?_
                  rintro e wb ⟨rfl, hb⟩
                  have HLb := Aside0.mk (rleft_below HLa.out hb)
                  have HAb := Aside0.mk (HAa.out.below hb)
                  have HYb := Aside0.mk (Kd.R_below HYa.out hb)
                  clear hb hf1 hf2 hc6
                  cases rb with
                  | false =>
                    have HGC := Aside0.mk (show getC b = ([], 2) from by rw [← HI.out.eq, getN_no H32.out HI.out.fu (by rw [HE.out]; rfl)])
                    go_wp2_with (fail)
                    go_ret2
                    refine ⟨.slice none 0 0, by rw [HGC.out]; first | done | rfl, ?_, HLb.out.2.1⟩
                    rw [HGC.out]
                    exact Kd.R_nil _ _ _ _ _
                  | true =>
                    have HE := Aside0.mk (show readE (some (f :: b1)) (l.length : Int) (headT l) = some (((l.length : Int), headT l, cm, sl, py, fb), r4) from HE.out)
                    by_cases h120 : 120 ≤ l.length
                    · have q3 : decide ((120 : Int) ≤ (l.length : Int)) = true := decide_eq_true (by omega)
                      have q4 : decide (120 ≤ l.length) = true := decide_eq_true h120
                      have HGC := Aside0.mk (show getC b = ([], 2) from by rw [← HI.out.eq, getN_many H32.out HI.out.fu HE.out h120])
                      clear h120
                      go_wp2_with (fail)
                      go_ret2
                      refine ⟨.slice none 0 0, by rw [HGC.out]; first | done | rfl, ?_, HLb.out.2.1⟩
                      rw [HGC.out]
                      exact Kd.R_nil _ _ _ _ _
                    · have q3 : decide ((120 : Int) ≤ (l.length : Int)) = false := decide_eq_false (by omega)
                      have q4 : decide (120 ≤ l.length) = false := decide_eq_false h120
                      have H120 := Aside0.mk h120
                      clear h120
                      have HM5 := Aside0.mk (HXM.out wb (g + 1) (fun k => W.heap.size ≤ k) (Kd.R_lower (Kd.R_mono (Kd.R_bound HYb.out) (fun k hk => hk.2.1)) (show g + 1 ≤ W.heap.size from HG.out)))
                      have HRb := Aside0.mk (HROW.out wb HLb.out.2.2)
                      have HZb := Aside0.mk (show g + 1 ≤ wb.heap.size from Nat.le_trans (show g + 1 ≤ W.heap.size from HG.out) HLb.out.2.2.1)
                      have HN3 := Aside0.mk (show ∀ k, some k = (Value.slice AL l.length cL).ownBlock → k < W.heap.size from fun k e => Kd.R_lt HI.out.row k e.symm)
                      go_wp2_with (first
                          | ((with_reducible refine gate_dst (N := 65) rfl ?_); refine wpList_load_at rfl 27 (.tmp 7) rfl ⟨g9, 0, none⟩ rfl X _ HAb.out Try.underlying27 rfl HCL.out ?_)
                          | ((with_reducible refine gate_dst (N := 66) rfl ?_); refine wpList_ent1 rfl (.tmp 65) rfl X rfl HXLEN.out ?_)
                          | ((with_reducible refine gate_builtin (b := .append) (xs := #[.tmp 64, .tmp 66]) rfl ?_); at_builtin; refine Kd.R_append DEnt (w0 := wb) (g + 1) rfl (.tmp 64) (.tmp 66) 22 27 (.agg Try.zeroCells27) 112 rfl Try.underlying22 info_entZ rfl (by decide) (by decide) _ l ((l.length : Int), headT l, cm, sl, py, fb) X (fun _ => True) (fun k => W.heap.size ≤ k) rfl rfl HM5.out (fun k hk => ⟨trivial, fun e => by have := HN3.out k e; omega⟩) (fun _ _ => trivial) HRb.out (Below.refl _ _) HZb.out (by have := HI.out.len; omega) ?_; intro v6 w6 ho hb hg hat; have HR6 := Aside0.mk (show Rg w6 (g + 1) v6 (l ++ [((l.length : Int), headT l, cm, sl, py, fb)]) from ho); have HB6 := Aside0.mk hb; have HG6 := Aside0.mk (show wb.grownBy w6 (Value.slice AL l.length cL).ownBlock from hg); clear ho hb hg hat))
                      obtain ⟨A6_, c6_, rfl⟩ := Kd.R_slice HR6.out
                      have HRD6 := Aside0.mk (show RfO w w6 g (some r4) from HLb.out.1.grown HG6.out (fun b e => by have := Kd.R_base HRb.out b e; omega))
                      have HBL6 := Aside0.mk (show Below w.heap.size w w6 from HLb.out.2.1.trans (HB6.out.mono (by have := HWG.out; omega)))
                      obtain ⟨n', hn'⟩ : ∃ k, n = k + 1 := ⟨n - 1, by have := HI.out.fu; have := H32.out; omega⟩
                      subst hn'
                      have HI2 := Aside0.mk (HI.out.next H32.out HE.out H120.out HRD6.out HBL6.out HR6.out HEU.out HPL.out)
                      go_roundg n'
                      case measure => have := HQ.out; omega
                      case rel => exact ⟨n', r4, l ++ [((l.length : Int), headT l, cm, sl, py, fb)], rfl, HI2⟩
      · rw [if_pos (by rfl)]
        refine wp_alloc_e rfl ?_
        have hb := (below_alloc (Below.refl w3.drew.heap.size w3.drew) (.cells zE.toArray 27))
        have H9_10 := Aside0.mk (show (w3.drew.alloc (.cells zE.toArray 27)).heap[w3.drew.heap.size]? = some (.cells zE.toArray 27 (0, 0)) from blk_new _ _)
        have HL_10 := Aside0.mk (rleft_below HLd.out hb)
        have HF_10 := Aside0.mk (show Rb (w3.drew.alloc (.cells zE.toArray 27)) (some ad6) [f] from Kd.C_below HFd.out hb)
        have HFN_10 := Aside0.mk (show ad6.block ≠ w3.drew.heap.size from Nat.ne_of_lt HFBd.out)
        have HN_10 := Aside0.mk (show W.heap.size ≤ w3.drew.heap.size from HLd.out.2.2.1)
        obtain ⟨zz10, hw_⟩ : ∃ W_, w3.drew.alloc (.cells zE.toArray 27) = W_ := ⟨_, rfl⟩
        obtain ⟨g9, hg_⟩ : ∃ g_, w3.drew.heap.size = g_ := ⟨_, rfl⟩
        clear hb
        rw [hw_, hg_] at H9_10
        rw [hg_] at HFN_10 HN_10
        rw [hw_] at HL_10 HF_10
        rw [hw_, hg_]
        clear hw_ hg_
        (refine Shut.out hK _ _ (rb_one HF_10.out) (fun hHeld => ?_); clear hK K; (try simp only [Act.put, List.getElem_toArray, List.getElem_cons_zero, List.getElem_cons_succ, List.setIfInBounds_toArray, List.set_cons_zero, List.set_cons_succ]))
        refine wpAnyH_ready (rs := [3]) (by kernel_rfl) (by simp) (AllReadyH.cons rfl (fun K hK => ?_) AllReadyH.nil)
        · go_simp
          refine (HHD.out _ HL_10.out).mono ?_
          rintro e zz11 ⟨rfl, hl⟩
          replace hl : Rf.Left w zz10 zz11 g (some b1) := ⟨HL_10.out.1.below hl, below_step HL_10.out.2.1 hl, KeepBut.of_below hl g none⟩
          have HL_11 := Aside0.mk (HL_10.out.trans hl)
          have HF_11 := Aside0.mk (rrb_step HF_10.out HL_10.out.1 hl.2.2)
          have H9_11 := Aside0.mk (hl.2.2.blk H9_10.out (by have := HG.out; have := HN_10.out; omega) (by simp))
          clear hl
          (refine Shut.out hK _ _ (rb_one HF_11.out) (fun hHeld => ?_); clear hK K; (try simp only [Act.put, List.getElem_toArray, List.getElem_cons_zero, List.getElem_cons_succ, List.setIfInBounds_toArray, List.set_cons_zero, List.set_cons_succ]))
          refine wpAnyH_ready (rs := [5]) (by kernel_rfl) (by simp) (AllReadyH.cons rfl (fun K hK => ?_) AllReadyH.nil)
          · go_simp
            refine (HSUM.out _ HL_11.out).mono ?_
            rintro e zz12 ⟨rfl, hl⟩
            have HL_12 := Aside0.mk (HL_11.out.trans hl)
            have HF_12 := Aside0.mk (rrb_step HF_11.out HL_11.out.1 hl.2.2)
            have H9_12 := Aside0.mk (hl.2.2.blk H9_11.out (by have := HG.out; have := HN_10.out; omega) (by simp))
            clear hl
            (refine Shut.out hK _ _ (rb_one HF_12.out) (fun hHeld => ?_); clear hK K; (try simp only [Act.put, List.getElem_toArray, List.getElem_cons_zero, List.getElem_cons_succ, List.setIfInBounds_toArray, List.set_cons_zero, List.set_cons_succ]))
            refine wpAnyH_ready (rs := [7]) (by kernel_rfl) (by simp) (AllReadyH.cons rfl (fun K hK => ?_) AllReadyH.nil)
            · go_simp
              refine (HNUM.out _ HL_12.out).mono ?_
              rintro e zz13 ⟨rfl, hl⟩
              have HL_13 := Aside0.mk (HL_12.out.trans hl)
              have HF_13 := Aside0.mk (rrb_step HF_12.out HL_12.out.1 hl.2.2)
              have H9_13 := Aside0.mk (hl.2.2.blk H9_12.out (by have := HG.out; have := HN_10.out; omega) (by simp))
              clear hl
              (refine Shut.out hK _ _ (rb_one HF_13.out) (fun hHeld => ?_); clear hK K; (try simp only [Act.put, List.getElem_toArray, List.getElem_cons_zero, List.getElem_cons_succ, List.setIfInBounds_toArray, List.set_cons_zero, List.set_cons_succ]))
              (refine wpAnyH_take (i := 12) rfl (by kernel_rfl) (by kernel_rfl) (by kernel_rfl) (fun _ _ _ h => h) (yieldsIf_new5 (by rfl) (.tmp 29) (.tmp 31) (.tmp 33) (.tmp 35) (.tmp 39) rfl (l.length : Int) sl P C HLP.out.1 HLP.out.2 fb rfl rfl rfl rfl rfl) (by assumption) ?_; (try simp only [Act.put, List.getElem_toArray, List.getElem_cons_zero, List.getElem_cons_succ, List.setIfInBounds_toArray, List.set_cons_zero, List.set_cons_succ]))
              refine wpAnyH_ready (rs := [14]) (by kernel_rfl) (by simp) (AllReadyH.cons rfl (fun K hK => ?_) AllReadyH.nil)
              rw [if_pos (by rfl)]
              refine wp_store_row 27 (.tmp 7) (.tmp 40) rfl g9 (cellsE (l.length : Int) P C sl none 0 0 fb).toArray rfl rfl 27 zE.toArray H9_13.out HCI.out.1 HCI.out.2.1 HCI.out.2.2 ?_
              have hg := grown_setRow zz13 g9 (cellsE (l.length : Int) P C sl none 0 0 fb).toArray
              have HL8 := Aside0.mk (rleft_grown HL_13.out (below_setRow (Below.refl _ _) HN_10.out _) hg (fun b e => by injection e with e; subst e; have := HN_10.out; have := HG.out; exact ⟨by omega, by have := HI.out.bl.size; omega⟩) HI.out.bl.size)
              have HF8 := Aside0.mk (rb_row HF_13.out hg (fun ad e => by cases e; exact HFN_10.out))
              have HX8 := Aside0.mk (setRow_heap zz13 g9 zE.toArray (cellsE (l.length : Int) P C sl none 0 0 fb).toArray _ _ H9_13.out)
              have HFN := HFN_10
              have HN9 := HN_10
              obtain ⟨w8, hw_⟩ : ∃ W_, zz13.setRow g9 (cellsE (l.length : Int) P C sl none 0 0 fb).toArray = W_ := ⟨_, rfl⟩
              rw [hw_] at HL8 HF8 HX8
              rw [hw_]
              clear hw_ hg
              (refine Shut.out hK _ _ (rb_one HF8.out) (fun hHeld => ?_); clear hK K; (try simp only [Act.put, List.getElem_toArray, List.getElem_cons_zero, List.getElem_cons_succ, List.setIfInBounds_toArray, List.set_cons_zero, List.set_cons_succ]))
              refine wpAnyH_done (by kernel_rfl) ?_ _
              clear hHeld
              go_wp2_with (fail)
              refine (HTXT.out _ HL8.out).mono ?_
              rintro e w9 ⟨v, rfl, ho, hl⟩
              obtain ⟨AY, cY, rfl⟩ := Kd.R_slice ho
              have HL9 := Aside0.mk (HL8.out.trans hl)
              have HX9 := Aside0.mk (hl.2.2.blk HX8.out (by have := HG.out; have := HN9.out; omega) (by simp))
              have HY9 := Aside0.mk (show Kd.R (Kd.int .u8) 5 w9 W.heap.size (fun k => k ≠ g9) (.slice AY py.length cY) py from Kd.R_lower (Kd.R_mono (Kd.R_bound ho) (fun k hk => by have h1 := hk.2.1; have h2 := blk_lt HX8.out; omega)) HL8.out.2.2.1)
              have HF9 := Aside0.mk (rrb_step HF8.out HL8.out.1 hl.2.2)
              clear ho hl
              have c66 : w9.cell? ⟨g9, 66, none⟩ = some (.slice none 0 0) := (entAt_blk (x := ((l.length : Int), headT l, cm, sl, [], fb)) HLP.out.1 HLP.out.2 HX9.out).py
              have f66 := blk_frozen HX9.out 66
              have HX9b := Aside0.mk (blk_set HX9.out 66 (.slice AY py.length cY))
              rw [List.setIfInBounds_toArray, set_pay (l.length : Int) sl P C HLP.out.1 HLP.out.2] at HX9b
              have hg := grown_setCell w9 g9 66 (.slice AY py.length cY)
              have HLa := Aside0.mk (rleft_grown HL9.out (show Below W.heap.size w9 (w9.setCell ⟨g9, 66, none⟩ (.slice AY py.length cY)) from ⟨rfl, rfl, rfl, by simp [World.setCell], fun k hk => Below.heap_setCell w9 ⟨g9, 66, none⟩ (.slice AY py.length cY) k (by have := HN9.out; dsimp only; omega)⟩) hg (fun b_ e => by injection e with e; subst e; have := HG.out; have := HN9.out; have := HI.out.bl.size; exact ⟨by omega, by omega⟩) HI.out.bl.size)
              have HYa := Aside0.mk (Kd.R_grown HY9.out hg (fun k hk e => hk (by injection e)))
              have HFa := Aside0.mk (rb_row HF9.out hg (fun ad e => by cases e; exact HFN.out))
              clear hg
              go_upto_region 7 with (fail)
              obtain ⟨wa, hw_⟩ : ∃ W_, w9.setCell ⟨g9, 66, none⟩ (.slice AY py.length cY) = W_ := ⟨_, rfl⟩
              rw [hw_] at HX9b HLa HYa HFa
              rw [hw_]
              clear hw_ c66 f66
              have hf1 := HLa.out.1.fail.1
              have hf2 := HLa.out.1.fail.2
              have hc6 := rb_one HFa.out
              cases st4 with
              | none =>
                simp only [Option.isSome_none, Bool.not_false] at hf1
                have HGC := Aside0.mk (show getC b = ([], 2) from by rw [← HI.out.eq, getN_no H32.out HI.out.fu HE.out])
                go_wp2_with (fail)
                go_ret2
                refine ⟨.slice none 0 0, by rw [HGC.out]; first | done | rfl, ?_, HLa.out.2.1⟩
                rw [HGC.out]
                exact Kd.R_nil _ _ _ _ _
              | some r4 =>
                simp only [Option.isSome_some, Bool.not_true] at hf1
                have HE := Aside0.mk (show readE (some (f :: b1)) (l.length : Int) (headT l) = if 1 < f then none else if rightT ((l.length : Int), headT l, cm, sl, py, fb) then some (((l.length : Int), headT l, cm, sl, py, fb), r4) else none from HE.out)
                by_cases h1 : 1 < f
                · have q1_ : decide (1 < f) = true := decide_eq_true h1
                  have HGC := Aside0.mk (show getC b = ([], 2) from by rw [← HI.out.eq, getN_no H32.out HI.out.fu (by rw [HE.out, if_pos h1])])
                  clear h1
                  go_wp2_with (fail)
                  go_ret2
                  refine ⟨.slice none 0 0, by rw [HGC.out]; first | done | rfl, ?_, HLa.out.2.1⟩
                  rw [HGC.out]
                  exact Kd.R_nil _ _ _ _ _
                · have q1_ : decide (1 < f) = false := decide_eq_false h1
                  rw [if_neg h1] at HE
                  clear h1
                  obtain ⟨m9_, r9_⟩ := (Kd.R_reads' HYa.out).2
                  have HCa := Aside0.mk (show EntC wa ((l.length : Int), headT l, cm, sl, py, fb) P C AY cY from ⟨HPC.out.1, HPC.out.2, m9_, r9_⟩)
                  clear m9_ r9_
                  have HRT := Aside0.mk (fun V (hV : Below wa.heap.size wa V) => rright1_c ((l.length : Int), headT l, cm, sl, py, fb) HEU.out (Nat.le_trans HPL.out (by decide)) P C AY cY V (HCa.out.below hV))
                  unfold RetB at HRT
                  have HAa := Aside0.mk (atC_blk HX9b.out)
                  have HCL := Aside0.mk (show (Try.prog.info? 27).map (·.size) = some (cellsE (l.length : Int) P C sl AY py.length cY fb).length from HCa.out.info)
                  obtain ⟨rb, hrb⟩ : ∃ t, rightT ((l.length : Int), headT l, cm, sl, py, fb) = t := ⟨_, rfl⟩
                  rw [hrb] at HRT HE
                  clear hrb
                  have HXM := Aside0.mk (fun (V : World) (base : Nat) (ok : Nat → Prop) (hO : Kd.R (Kd.int .u8) 5 V base ok (.slice AY py.length cY) py) => show DEnt.M V base ok ((l.length : Int), headT l, cm, sl, py, fb) (cellsE (l.length : Int) P C sl AY py.length cY fb) from ent_mkM (x := ((l.length : Int), headT l, cm, sl, py, fb)) HPC.out.1 HPC.out.2 hO)
                  have HXO := Aside0.mk (show (cellsE (l.length : Int) P C sl AY py.length cY fb).toArray.all (·.oneCell') = true from HCa.out.one)
                  have HXLEN := Aside0.mk (show (cellsE (l.length : Int) P C sl AY py.length cY fb).length = 68 from HCa.out.len)
                  have HRT := Aside0.mk (fun V hV => show Calls Try.prog 56 #[.agg (cellsE (l.length : Int) P C sl AY py.length cY fb).toArray] V _ from HRT.out V hV)
                  obtain ⟨X, hX⟩ : ∃ t, cellsE (l.length : Int) P C sl AY py.length cY fb = t := ⟨_, rfl⟩
                  rw [hX] at HX9b HAa HCL HRT HXM HXO HXLEN
                  clear hX
                  go_wp2_with ((with_reducible refine gate_dst (N := 55) rfl ?_); (try (refine gate_guard (by rfl) ?_; dsimp only)); refine wpList_load_at rfl 27 (.tmp 7) rfl ⟨g9, 0, none⟩ rfl X _ HAa.out Try.underlying27 rfl HCL.out ?_)
                  refine (HRT.out _ (Below.refl _ _)).mono ?_
                  rintro e wb ⟨rfl, hb⟩
                  have HLb := Aside0.mk (rleft_below HLa.out hb)
                  have HAb := Aside0.mk (HAa.out.below hb)
                  have HYb := Aside0.mk (Kd.R_below HYa.out hb)
                  clear hb hf1 hf2 hc6
                  cases rb with
                  | false =>
                    have HGC := Aside0.mk (show getC b = ([], 2) from by rw [← HI.out.eq, getN_no H32.out HI.out.fu (by rw [HE.out]; rfl)])
                    go_wp2_with (fail)
                    go_ret2
                    refine ⟨.slice none 0 0, by rw [HGC.out]; first | done | rfl, ?_, HLb.out.2.1⟩
                    rw [HGC.out]
                    exact Kd.R_nil _ _ _ _ _
                  | true =>
                    have HE := Aside0.mk (show readE (some (f :: b1)) (l.length : Int) (headT l) = some (((l.length : Int), headT l, cm, sl, py, fb), r4) from HE.out)
                    by_cases h120 : 120 ≤ l.length
                    · have q3 : decide ((120 : Int) ≤ (l.length : Int)) = true := decide_eq_true (by omega)
                      have q4 : decide (120 ≤ l.length) = true := decide_eq_true h120
                      have HGC := Aside0.mk (show getC b = ([], 2) from by rw [← HI.out.eq, getN_many H32.out HI.out.fu HE.out h120])
                      clear h120
                      go_wp2_with (fail)
                      go_ret2
                      refine ⟨.slice none 0 0, by rw [HGC.out]; first | done | rfl, ?_, HLb.out.2.1⟩
                      rw [HGC.out]
                      exact Kd.R_nil _ _ _ _ _
                    · have q3 : decide ((120 : Int) ≤ (l.length : Int)) = false := decide_eq_false (by omega)
                      have q4 : decide (120 ≤ l.length) = false := decide_eq_false h120
                      have H120 := Aside0.mk h120
                      clear h120
                      have HM5 := Aside0.mk (HXM.out wb (g + 1) (fun k => W.heap.size ≤ k) (Kd.R_lower (Kd.R_mono (Kd.R_bound HYb.out) (fun k hk => hk.2.1)) (show g + 1 ≤ W.heap.size from HG.out)))
                      have HRb := Aside0.mk (HROW.out wb HLb.out.2.2)
                      have HZb := Aside0.mk (show g + 1 ≤ wb.heap.size from Nat.le_trans (show g + 1 ≤ W.heap.size from HG.out) HLb.out.2.2.1)
                      have HN3 := Aside0.mk (show ∀ k, some k = (Value.slice AL l.length cL).ownBlock → k < W.heap.size from fun k e => Kd.R_lt HI.out.row k e.symm)
                      go_wp2_with (first
                          | ((with_reducible refine gate_dst (N := 65) rfl ?_); refine wpList_load_at rfl 27 (.tmp 7) rfl ⟨g9, 0, none⟩ rfl X _ HAb.out Try.underlying27 rfl HCL.out ?_)
                          | ((with_reducible refine gate_dst (N := 66) rfl ?_); refine wpList_ent1 rfl (.tmp 65) rfl X rfl HXLEN.out ?_)
                          | ((with_reducible refine gate_builtin (b := .append) (xs := #[.tmp 64, .tmp 66]) rfl ?_); at_builtin; refine Kd.R_append DEnt (w0 := wb) (g + 1) rfl (.tmp 64) (.tmp 66) 22 27 (.agg Try.zeroCells27) 112 rfl Try.underlying22 info_entZ rfl (by decide) (by decide) _ l ((l.length : Int), headT l, cm, sl, py, fb) X (fun _ => True) (fun k => W.heap.size ≤ k) rfl rfl HM5.out (fun k hk => ⟨trivial, fun e => by have := HN3.out k e; omega⟩) (fun _ _ => trivial) HRb.out (Below.refl _ _) HZb.out (by have := HI.out.len; omega) ?_; intro v6 w6 ho hb hg hat; have HR6 := Aside0.mk (show Rg w6 (g + 1) v6 (l ++ [((l.length : Int), headT l, cm, sl, py, fb)]) from ho); have HB6 := Aside0.mk hb; have HG6 := Aside0.mk (show wb.grownBy w6 (Value.slice AL l.length cL).ownBlock from hg); clear ho hb hg hat))
                      obtain ⟨A6_, c6_, rfl⟩ := Kd.R_slice HR6.out
                      have HRD6 := Aside0.mk (show RfO w w6 g (some r4) from HLb.out.1.grown HG6.out (fun b e => by have := Kd.R_base HRb.out b e; omega))
                      have HBL6 := Aside0.mk (show Below w.heap.size w w6 from HLb.out.2.1.trans (HB6.out.mono (by have := HWG.out; omega)))
                      obtain ⟨n', hn'⟩ : ∃ k, n = k + 1 := ⟨n - 1, by have := HI.out.fu; have := H32.out; omega⟩
                      subst hn'
                      have HI2 := Aside0.mk (HI.out.next H32.out HE.out H120.out HRD6.out HBL6.out HR6.out HEU.out HPL.out)
                      go_roundg n'
                      case measure => have := HQ.out; omega
                      case rel => exact ⟨n', r4, l ++ [((l.length : Int), headT l, cm, sl, py, fb)], rfl, HI2⟩
    · have q0 : decide ((32 : Int) < (bs.length : Int)) = false := decide_eq_false (by omega)
      have q1 : decide (32 < bs.length) = false := decide_eq_false h32
      have HGF := Aside0.mk (show getC b = finC bs l from by rw [← HI.out.eq, getN_fin h32])
      have HSM := Aside0.mk (rsum_c w W g (some bs) HI.out.rd HI.out.bl)
      obtain ⟨D, hD⟩ := sumC (headT l) (headT_len _)
      have HD := Aside0.mk hD
      have hguard := guard_32
      by_cases hb32 : bs.length = 32
      · have hso : sumO (some bs) = (bs, some []) := by
          have := sumO_app (d := bs) (r := []) hb32
          rwa [List.append_nil] at this
        obtain ⟨BS, hBS⟩ := sumC bs hb32
        rw [hso, hBS.v] at HSM
        have HEQ := Aside0.mk (run_eq_sum bs (headT l) hb32 (headT_len _))
        rw [hBS.v, hD.v] at HEQ
        have HBS := Aside0.mk hBS
        have HBI := Aside0.mk hBS.blk
        obtain ⟨eb, heb⟩ : ∃ t, decide (bs = headT l) = t := ⟨_, rfl⟩
        rw [heb] at HEQ
        obtain ⟨nb, hnb⟩ : ∃ k, bs.length = k := ⟨_, rfl⟩
        cases eb with
        | true =>
          have HGC := Aside0.mk (show getC b = (l, 0) from by rw [HGF.out]; unfold finC; rw [if_pos ⟨hb32, of_decide_eq_true heb⟩])
          clear hso hBS heb hb32 h32 hD
          rw [hnb] at hb7 q0 q1
          clear hnb
          go_wp2_with (fail)
          refine (HSM.out).mono ?_
          rintro e w3 ⟨rfl, hl⟩
          have HL3 := Aside0.mk hl
          clear hl hf1 hf2 hb7 q0 q1
          have HY := Aside0.mk (show (w3.alloc (.cells Z32 23)).heap[w3.heap.size]? = some (.cells Z32 23 (0, 0)) from blk_new _ _)
          have HG4 := Aside0.mk (atC_blk (setRow_heap (w3.alloc (.cells Z32 23)) w3.heap.size Z32 BS.toArray _ _ HY.out))
          have HB34 := Aside0.mk (show Below w3.heap.size w3 ((w3.alloc (.cells Z32 23)).setRow w3.heap.size BS.toArray) from below_setRow (below_alloc (Below.refl _ _) _) (Nat.le_refl _) _)
          go_upto_region 11 with ((with_reducible refine gate_store (t := 23) (p := 8) (v := .tmp 69) rfl ?_); refine wpList_store_row rfl 23 (.tmp 8) (.tmp 69) rfl w3.heap.size BS.toArray rfl rfl 23 Z32 HY.out HBS.out.blkA HBS.out.zsA HBS.out.oneA ?_)
          obtain ⟨w4, hw4⟩ : ∃ V, (w3.alloc (.cells Z32 23)).setRow w3.heap.size BS.toArray = V := ⟨_, rfl⟩
          rw [hw4] at HG4 HB34
          rw [show (w3.alloc (.cells #[.int .u8 0, .int .u8 0, .int .u8 0, .int .u8 0, .int .u8 0, .int .u8 0, .int .u8 0, .int .u8 0, .int .u8 0, .int .u8 0, .int .u8 0, .int .u8 0, .int .u8 0, .int .u8 0, .int .u8 0, .int .u8 0, .int .u8 0, .int .u8 0, .int .u8 0, .int .u8 0, .int .u8 0, .int .u8 0, .int .u8 0, .int .u8 0, .int .u8 0, .int .u8 0, .int .u8 0, .int .u8 0, .int .u8 0, .int .u8 0, .int .u8 0, .int .u8 0] 23)).setRow w3.heap.size BS.toArray = w4 from hw4]
          obtain ⟨h8, hh8⟩ : ∃ g, w3.heap.size = g := ⟨_, rfl⟩
          have HL4 := Aside0.mk (rleft_below HL3.out HB34.out)
          rw [hh8] at HG4 ⊢
          clear hw4 hh8 HY HB34
          have HR4 := Aside0.mk (HROW.out w4 HL4.out.2.2)
          have HAV := Aside0.mk (fun V (hV : Below w4.heap.size w4 V) => show V.cell? ⟨g, 1, none⟩ = some (.bool false) ∧ AtC V ⟨h8, 0, none⟩ BS from ⟨cell_below hV HL4.out.1.fail.1, HG4.out.below hV⟩)
          have HHE := Aside0.mk (fun V (hV : Below w4.heap.size w4 V) => rhead_c l l.length rfl (by have := HI.out.len; omega) HI.out.u AL cL V (Kd.C_below (Kd.R_reads' HR4.out).2.2 hV))
          unfold Ret at HHE
          rw [HD.out.v] at HHE
          refine wp_region_held_drew (S := fun V => V.cell? ⟨g, 1, none⟩ = some (.bool false) ∧ AtC V ⟨h8, 0, none⟩ BS) (by kernel_rfl) (HAV.out _ (below_drew1 (Below.refl _ _))) (fun hHeld => ?_)
          (refine wpAnyH_take (i := 0) (v := ?_) rfl (by kernel_rfl) (by kernel_rfl) (by kernel_rfl) (fun _ _ _ h => h) (Or.inl ⟨by rfl, ?_⟩) (by assumption) ?_; (case' refine_2 => (intro w hSw; go_simp; try with_reducible rfl)); (try simp only [Act.put, List.getElem_toArray, List.getElem_cons_zero, List.getElem_cons_succ, List.setIfInBounds_toArray, List.set_cons_zero, List.set_cons_succ]))
          (refine wpAnyH_take (i := 1) (v := ?_) rfl (by kernel_rfl) (by kernel_rfl) (by kernel_rfl) (fun _ _ _ h => h) (Or.inl ⟨by rfl, ?_⟩) (by assumption) ?_; (case' refine_2 => (intro w hSw; go_simp; try with_reducible rfl)); (try simp only [Act.put, List.getElem_toArray, List.getElem_cons_zero, List.getElem_cons_succ, List.setIfInBounds_toArray, List.set_cons_zero, List.set_cons_succ]))
          (refine wpAnyH_take (i := 2) (v := ?_) rfl (by kernel_rfl) (by kernel_rfl) (by kernel_rfl) (fun _ _ _ h => h) (Or.inl ⟨by rfl, ?_⟩) (by assumption) ?_; (case' refine_2 => (intro w hSw; go_simp; try with_reducible rfl)); (try simp only [Act.put, List.getElem_toArray, List.getElem_cons_zero, List.getElem_cons_succ, List.setIfInBounds_toArray, List.set_cons_zero, List.set_cons_succ]))
          (refine wpAnyH_take (i := 3) (v := ?_) rfl (by kernel_rfl) (by kernel_rfl) (by kernel_rfl) (fun _ _ _ h => h) (Or.inl ⟨by rfl, ?_⟩) (by assumption) ?_; (case' refine_2 => (intro w hSw; go_simp; try with_reducible rfl)); (try simp only [Act.put, List.getElem_toArray, List.getElem_cons_zero, List.getElem_cons_succ, List.setIfInBounds_toArray, List.set_cons_zero, List.set_cons_succ]))
          (refine wpAnyH_take (i := 4) (v := ?_) rfl (by kernel_rfl) (by kernel_rfl) (by kernel_rfl) (fun _ _ _ h => h) (Or.inl ⟨by rfl, ?_⟩) (by assumption) ?_; (case' refine_2 => (intro w hSw; go_simp; try with_reducible rfl)); (try simp only [Act.put, List.getElem_toArray, List.getElem_cons_zero, List.getElem_cons_succ, List.setIfInBounds_toArray, List.set_cons_zero, List.set_cons_succ]))
          (refine wpAnyH_take (i := 5) rfl (by kernel_rfl) (by kernel_rfl) (by kernel_rfl) (fun _ _ _ h => h) (yieldsIf_load_at (by rfl) _ _ rfl ⟨h8, 0, none⟩ rfl BS _ (fun _ h => h.2) (by assumption) rfl HBI.out) (by assumption) ?_; (try simp only [Act.put, List.getElem_toArray, List.getElem_cons_zero, List.getElem_cons_succ, List.setIfInBounds_toArray, List.set_cons_zero, List.set_cons_succ]))
          (refine wpAnyH_take (i := 6) (v := ?_) rfl (by kernel_rfl) (by kernel_rfl) (by kernel_rfl) (fun _ _ _ h => h) (Or.inl ⟨by rfl, ?_⟩) (by assumption) ?_; (case' refine_2 => (intro w hSw; go_simp; try with_reducible rfl)); (try simp only [Act.put, List.getElem_toArray, List.getElem_cons_zero, List.getElem_cons_succ, List.setIfInBounds_toArray, List.set_cons_zero, List.set_cons_succ]))
          (refine wpAnyH_ready (rs := [7]) (by kernel_rfl) (by simp) (AllReadyH.cons rfl (fun K hK => ?_) AllReadyH.nil); go_simp)
          refine (HHE.out _ (below_drew1 (Below.refl _ _))).mono ?_
          rintro e w5 ⟨rfl, hb⟩
          have HB5 := Aside0.mk (below_drew_of hb)
          clear hb
          (refine Shut.out hK _ _ (HAV.out _ HB5.out) (fun hHeld => ?_); clear hK K; (try simp only [Act.put, List.getElem_toArray, List.getElem_cons_zero, List.getElem_cons_succ, List.setIfInBounds_toArray, List.set_cons_zero, List.set_cons_succ]))
          have heq := HEQ.out
          (refine wpAnyH_take (i := 8) (v := ?_) rfl (by kernel_rfl) (by kernel_rfl) (by kernel_rfl) (fun _ _ _ h => h) (Or.inl ⟨by rfl, ?_⟩) (by assumption) ?_; (case' refine_2 => (intro w hSw; go_simp; try with_reducible rfl)); (try simp only [Act.put, List.getElem_toArray, List.getElem_cons_zero, List.getElem_cons_succ, List.setIfInBounds_toArray, List.set_cons_zero, List.set_cons_succ]))
          clear heq
          (refine wpAnyH_take (i := 9) (v := ?_) rfl (by kernel_rfl) (by kernel_rfl) (by kernel_rfl) (fun _ _ _ h => h) (Or.inl ⟨by rfl, ?_⟩) (by assumption) ?_; (case' refine_2 => (intro w hSw; go_simp; try with_reducible rfl)); (try simp only [Act.put, List.getElem_toArray, List.getElem_cons_zero, List.getElem_cons_succ, List.setIfInBounds_toArray, List.set_cons_zero, List.set_cons_succ]))
          refine wpAnyH_done (by kernel_rfl) ?_ _
          have HB9 := Aside0.mk (below_step HL4.out.2.1 HB5.out)
          go_wp2_with (fail)
          go_ret2
          refine ⟨.slice AL l.length cL, by rw [HGC.out]; first | done | rfl, ?_, HB9.out⟩
          rw [HGC.out]
          exact Kd.R_lower (Kd.R_below HR4.out HB5.out) (by have := HWG.out; omega)
        | false =>
          have HGC := Aside0.mk (show getC b = ([], 2) from by rw [HGF.out]; unfold finC; rw [if_neg (fun h => of_decide_eq_false heb h.2)])
          clear hso hBS heb hb32 h32 hD
          rw [hnb] at hb7 q0 q1
          clear hnb
          go_wp2_with (fail)
          refine (HSM.out).mono ?_
          rintro e w3 ⟨rfl, hl⟩
          have HL3 := Aside0.mk hl
          clear hl hf1 hf2 hb7 q0 q1
          have HY := Aside0.mk (show (w3.alloc (.cells Z32 23)).heap[w3.heap.size]? = some (.cells Z32 23 (0, 0)) from blk_new _ _)
          have HG4 := Aside0.mk (atC_blk (setRow_heap (w3.alloc (.cells Z32 23)) w3.heap.size Z32 BS.toArray _ _ HY.out))
          have HB34 := Aside0.mk (show Below w3.heap.size w3 ((w3.alloc (.cells Z32 23)).setRow w3.heap.size BS.toArray) from below_setRow (below_alloc (Below.refl _ _) _) (Nat.le_refl _) _)
          go_upto_region 11 with ((with_reducible refine gate_store (t := 23) (p := 8) (v := .tmp 69) rfl ?_); refine wpList_store_row rfl 23 (.tmp 8) (.tmp 69) rfl w3.heap.size BS.toArray rfl rfl 23 Z32 HY.out HBS.out.blkA HBS.out.zsA HBS.out.oneA ?_)
          obtain ⟨w4, hw4⟩ : ∃ V, (w3.alloc (.cells Z32 23)).setRow w3.heap.size BS.toArray = V := ⟨_, rfl⟩
          rw [hw4] at HG4 HB34
          rw [show (w3.alloc (.cells #[.int .u8 0, .int .u8 0, .int .u8 0, .int .u8 0, .int .u8 0, .int .u8 0, .int .u8 0, .int .u8 0, .int .u8 0, .int .u8 0, .int .u8 0, .int .u8 0, .int .u8 0, .int .u8 0, .int .u8 0, .int .u8 0, .int .u8 0, .int .u8 0, .int .u8 0, .int .u8 0, .int .u8 0, .int .u8 0, .int .u8 0, .int .u8 0, .int .u8 0, .int .u8 0, .int .u8 0, .int .u8 0, .int .u8 0, .int .u8 0, .int .u8 0, .int .u8 0] 23)).setRow w3.heap.size BS.toArray = w4 from hw4]
          obtain ⟨h8, hh8⟩ : ∃ g, w3.heap.size = g := ⟨_, rfl⟩
          have HL4 := Aside0.mk (rleft_below HL3.out HB34.out)
          rw [hh8] at HG4 ⊢
          clear hw4 hh8 HY HB34
          have HR4 := Aside0.mk (HROW.out w4 HL4.out.2.2)
          have HAV := Aside0.mk (fun V (hV : Below w4.heap.size w4 V) => show V.cell? ⟨g, 1, none⟩ = some (.bool false) ∧ AtC V ⟨h8, 0, none⟩ BS from ⟨cell_below hV HL4.out.1.fail.1, HG4.out.below hV⟩)
          have HHE := Aside0.mk (fun V (hV : Below w4.heap.size w4 V) => rhead_c l l.length rfl (by have := HI.out.len; omega) HI.out.u AL cL V (Kd.C_below (Kd.R_reads' HR4.out).2.2 hV))
          unfold Ret at HHE
          rw [HD.out.v] at HHE
          refine wp_region_held_drew (S := fun V => V.cell? ⟨g, 1, none⟩ = some (.bool false) ∧ AtC V ⟨h8, 0, none⟩ BS) (by kernel_rfl) (HAV.out _ (below_drew1 (Below.refl _ _))) (fun hHeld => ?_)
          (refine wpAnyH_take (i := 0) (v := ?_) rfl (by kernel_rfl) (by kernel_rfl) (by kernel_rfl) (fun _ _ _ h => h) (Or.inl ⟨by rfl, ?_⟩) (by assumption) ?_; (case' refine_2 => (intro w hSw; go_simp; try with_reducible rfl)); (try simp only [Act.put, List.getElem_toArray, List.getElem_cons_zero, List.getElem_cons_succ, List.setIfInBounds_toArray, List.set_cons_zero, List.set_cons_succ]))
          (refine wpAnyH_take (i := 1) (v := ?_) rfl (by kernel_rfl) (by kernel_rfl) (by kernel_rfl) (fun _ _ _ h => h) (Or.inl ⟨by rfl, ?_⟩) (by assumption) ?_; (case' refine_2 => (intro w hSw; go_simp; try with_reducible rfl)); (try simp only [Act.put, List.getElem_toArray, List.getElem_cons_zero, List.getElem_cons_succ, List.setIfInBounds_toArray, List.set_cons_zero, List.set_cons_succ]))
          (refine wpAnyH_take (i := 2) (v := ?_) rfl (by kernel_rfl) (by kernel_rfl) (by kernel_rfl) (fun _ _ _ h => h) (Or.inl ⟨by rfl, ?_⟩) (by assumption) ?_; (case' refine_2 => (intro w hSw; go_simp; try with_reducible rfl)); (try simp only [Act.put, List.getElem_toArray, List.getElem_cons_zero, List.getElem_cons_succ, List.setIfInBounds_toArray, List.set_cons_zero, List.set_cons_succ]))
          (refine wpAnyH_take (i := 3) (v := ?_) rfl (by kernel_rfl) (by kernel_rfl) (by kernel_rfl) (fun _ _ _ h => h) (Or.inl ⟨by rfl, ?_⟩) (by assumption) ?_; (case' refine_2 => (intro w hSw; go_simp; try with_reducible rfl)); (try simp only [Act.put, List.getElem_toArray, List.getElem_cons_zero, List.getElem_cons_succ, List.setIfInBounds_toArray, List.set_cons_zero, List.set_cons_succ]))
          (refine wpAnyH_take (i := 4) (v := ?_) rfl (by kernel_rfl) (by kernel_rfl) (by kernel_rfl) (fun _ _ _ h => h) (Or.inl ⟨by rfl, ?_⟩) (by assumption) ?_; (case' refine_2 => (intro w hSw; go_simp; try with_reducible rfl)); (try simp only [Act.put, List.getElem_toArray, List.getElem_cons_zero, List.getElem_cons_succ, List.setIfInBounds_toArray, List.set_cons_zero, List.set_cons_succ]))
          (refine wpAnyH_take (i := 5) rfl (by kernel_rfl) (by kernel_rfl) (by kernel_rfl) (fun _ _ _ h => h) (yieldsIf_load_at (by rfl) _ _ rfl ⟨h8, 0, none⟩ rfl BS _ (fun _ h => h.2) (by assumption) rfl HBI.out) (by assumption) ?_; (try simp only [Act.put, List.getElem_toArray, List.getElem_cons_zero, List.getElem_cons_succ, List.setIfInBounds_toArray, List.set_cons_zero, List.set_cons_succ]))
          (refine wpAnyH_take (i := 6) (v := ?_) rfl (by kernel_rfl) (by kernel_rfl) (by kernel_rfl) (fun _ _ _ h => h) (Or.inl ⟨by rfl, ?_⟩) (by assumption) ?_; (case' refine_2 => (intro w hSw; go_simp; try with_reducible rfl)); (try simp only [Act.put, List.getElem_toArray, List.getElem_cons_zero, List.getElem_cons_succ, List.setIfInBounds_toArray, List.set_cons_zero, List.set_cons_succ]))
          (refine wpAnyH_ready (rs := [7]) (by kernel_rfl) (by simp) (AllReadyH.cons rfl (fun K hK => ?_) AllReadyH.nil); go_simp)
          refine (HHE.out _ (below_drew1 (Below.refl _ _))).mono ?_
          rintro e w5 ⟨rfl, hb⟩
          have HB5 := Aside0.mk (below_drew_of hb)
          clear hb
          (refine Shut.out hK _ _ (HAV.out _ HB5.out) (fun hHeld => ?_); clear hK K; (try simp only [Act.put, List.getElem_toArray, List.getElem_cons_zero, List.getElem_cons_succ, List.setIfInBounds_toArray, List.set_cons_zero, List.set_cons_succ]))
          have heq := HEQ.out
          (refine wpAnyH_take (i := 8) (v := ?_) rfl (by kernel_rfl) (by kernel_rfl) (by kernel_rfl) (fun _ _ _ h => h) (Or.inl ⟨by rfl, ?_⟩) (by assumption) ?_; (case' refine_2 => (intro w hSw; go_simp; try with_reducible rfl)); (try simp only [Act.put, List.getElem_toArray, List.getElem_cons_zero, List.getElem_cons_succ, List.setIfInBounds_toArray, List.set_cons_zero, List.set_cons_succ]))
          clear heq
          (refine wpAnyH_take (i := 9) (v := ?_) rfl (by kernel_rfl) (by kernel_rfl) (by kernel_rfl) (fun _ _ _ h => h) (Or.inl ⟨by rfl, ?_⟩) (by assumption) ?_; (case' refine_2 => (intro w hSw; go_simp; try with_reducible rfl)); (try simp only [Act.put, List.getElem_toArray, List.getElem_cons_zero, List.getElem_cons_succ, List.setIfInBounds_toArray, List.set_cons_zero, List.set_cons_succ]))
          refine wpAnyH_done (by kernel_rfl) ?_ _
          have HB9 := Aside0.mk (below_step HL4.out.2.1 HB5.out)
          go_wp2_with (fail)
          go_ret2
          refine ⟨.slice none 0 0, by rw [HGC.out]; first | done | rfl, ?_, HB9.out⟩
          rw [HGC.out]
          exact Kd.R_nil _ _ _ _ _
      · have hso : sumO (some bs) = (Z, none) := by
          have h1 : takeO (some bs) 32 = ([], none) := by simp only [takeO]; rw [if_neg (by omega)]
          unfold sumO
          rw [h1]
          rfl
        obtain ⟨BS, hBS⟩ := sumC Z Z_len
        rw [hso, hBS.v] at HSM
        have HBS := Aside0.mk hBS
        have HBI := Aside0.mk hBS.blk
        have HGC := Aside0.mk (show getC b = ([], 2) from by rw [HGF.out]; unfold finC; rw [if_neg (fun h => hb32 h.1)])
        obtain ⟨nb, hnb⟩ : ∃ k, bs.length = k := ⟨_, rfl⟩
        clear hso hBS hb32 h32 hD
        rw [hnb] at hb7 q0 q1
        clear hnb
        go_wp2_with (fail)
        refine (HSM.out).mono ?_
        rintro e w3 ⟨rfl, hl⟩
        have HL3 := Aside0.mk hl
        clear hl hf1 hf2 hb7 q0 q1
        have HY := Aside0.mk (show (w3.alloc (.cells Z32 23)).heap[w3.heap.size]? = some (.cells Z32 23 (0, 0)) from blk_new _ _)
        have HG4 := Aside0.mk (atC_blk (setRow_heap (w3.alloc (.cells Z32 23)) w3.heap.size Z32 BS.toArray _ _ HY.out))
        have HB34 := Aside0.mk (show Below w3.heap.size w3 ((w3.alloc (.cells Z32 23)).setRow w3.heap.size BS.toArray) from below_setRow (below_alloc (Below.refl _ _) _) (Nat.le_refl _) _)
        go_upto_region 11 with ((with_reducible refine gate_store (t := 23) (p := 8) (v := .tmp 69) rfl ?_); refine wpList_store_row rfl 23 (.tmp 8) (.tmp 69) rfl w3.heap.size BS.toArray rfl rfl 23 Z32 HY.out HBS.out.blkA HBS.out.zsA HBS.out.oneA ?_)
        obtain ⟨w4, hw4⟩ : ∃ V, (w3.alloc (.cells Z32 23)).setRow w3.heap.size BS.toArray = V := ⟨_, rfl⟩
        rw [hw4] at HG4 HB34
        rw [show (w3.alloc (.cells #[.int .u8 0, .int .u8 0, .int .u8 0, .int .u8 0, .int .u8 0, .int .u8 0, .int .u8 0, .int .u8 0, .int .u8 0, .int .u8 0, .int .u8 0, .int .u8 0, .int .u8 0, .int .u8 0, .int .u8 0, .int .u8 0, .int .u8 0, .int .u8 0, .int .u8 0, .int .u8 0, .int .u8 0, .int .u8 0, .int .u8 0, .int .u8 0, .int .u8 0, .int .u8 0, .int .u8 0, .int .u8 0, .int .u8 0, .int .u8 0, .int .u8 0, .int .u8 0] 23)).setRow w3.heap.size BS.toArray = w4 from hw4]
        obtain ⟨h8, hh8⟩ : ∃ g, w3.heap.size = g := ⟨_, rfl⟩
        have HL4 := Aside0.mk (rleft_below HL3.out HB34.out)
        rw [hh8] at HG4 ⊢
        clear hw4 hh8 HY HB34
        have HR4 := Aside0.mk (HROW.out w4 HL4.out.2.2)
        have HAV := Aside0.mk (fun V (hV : Below w4.heap.size w4 V) => show V.cell? ⟨g, 1, none⟩ = some (.bool true) ∧ AtC V ⟨h8, 0, none⟩ BS from ⟨cell_below hV HL4.out.1.fail.1, HG4.out.below hV⟩)
        have HHE := Aside0.mk (fun V (hV : Below w4.heap.size w4 V) => rhead_c l l.length rfl (by have := HI.out.len; omega) HI.out.u AL cL V (Kd.C_below (Kd.R_reads' HR4.out).2.2 hV))
        unfold Ret at HHE
        rw [HD.out.v] at HHE
        refine wp_region_held_drew (S := fun V => V.cell? ⟨g, 1, none⟩ = some (.bool true) ∧ AtC V ⟨h8, 0, none⟩ BS) (by kernel_rfl) (HAV.out _ (below_drew1 (Below.refl _ _))) (fun hHeld => ?_)
        (refine wpAnyH_take (i := 0) (v := ?_) rfl (by kernel_rfl) (by kernel_rfl) (by kernel_rfl) (fun _ _ _ h => h) (Or.inl ⟨by rfl, ?_⟩) (by assumption) ?_; (case' refine_2 => (intro w hSw; go_simp; try with_reducible rfl)); (try simp only [Act.put, List.getElem_toArray, List.getElem_cons_zero, List.getElem_cons_succ, List.setIfInBounds_toArray, List.set_cons_zero, List.set_cons_succ]))
        (refine wpAnyH_take (i := 1) (v := ?_) rfl (by kernel_rfl) (by kernel_rfl) (by kernel_rfl) (fun _ _ _ h => h) (Or.inl ⟨by rfl, ?_⟩) (by assumption) ?_; (case' refine_2 => (intro w hSw; go_simp; try with_reducible rfl)); (try simp only [Act.put, List.getElem_toArray, List.getElem_cons_zero, List.getElem_cons_succ, List.setIfInBounds_toArray, List.set_cons_zero, List.set_cons_succ]))
        (refine wpAnyH_take (i := 2) (v := ?_) rfl (by kernel_rfl) (by kernel_rfl) (by kernel_rfl) (fun _ _ _ h => h) (Or.inl ⟨by rfl, ?_⟩) (by assumption) ?_; (case' refine_2 => (intro w hSw; go_simp; try with_reducible rfl)); (try simp only [Act.put, List.getElem_toArray, List.getElem_cons_zero, List.getElem_cons_succ, List.setIfInBounds_toArray, List.set_cons_zero, List.set_cons_succ]))
        (refine wpAnyH_take (i := 3) (v := ?_) rfl (by kernel_rfl) (by kernel_rfl) (by kernel_rfl) (fun _ _ _ h => h) (Or.inl ⟨by rfl, ?_⟩) (by assumption) ?_; (case' refine_2 => (intro w hSw; go_simp; try with_reducible rfl)); (try simp only [Act.put, List.getElem_toArray, List.getElem_cons_zero, List.getElem_cons_succ, List.setIfInBounds_toArray, List.set_cons_zero, List.set_cons_succ]))
        (refine wpAnyH_take (i := 4) (v := ?_) rfl (by kernel_rfl) (by kernel_rfl) (by kernel_rfl) (fun _ _ _ h => h) (Or.inl ⟨by rfl, ?_⟩) (by assumption) ?_; (case' refine_2 => (intro w hSw; go_simp; try with_reducible rfl)); (try simp only [Act.put, List.getElem_toArray, List.getElem_cons_zero, List.getElem_cons_succ, List.setIfInBounds_toArray, List.set_cons_zero, List.set_cons_succ]))
        (refine wpAnyH_take (i := 5) (v := undef) rfl (by kernel_rfl) (by kernel_rfl) (by kernel_rfl) (fun _ _ _ h => h) (Or.inr ⟨by rfl, rfl⟩) (by assumption) ?_; (try simp only [Act.put, List.getElem_toArray, List.getElem_cons_zero, List.getElem_cons_succ, List.setIfInBounds_toArray, List.set_cons_zero, List.set_cons_succ]))
        (refine wpAnyH_take (i := 6) (v := undef) rfl (by kernel_rfl) (by kernel_rfl) (by kernel_rfl) (fun _ _ _ h => h) (Or.inr ⟨by rfl, rfl⟩) (by assumption) ?_; (try simp only [Act.put, List.getElem_toArray, List.getElem_cons_zero, List.getElem_cons_succ, List.setIfInBounds_toArray, List.set_cons_zero, List.set_cons_succ]))
        (refine wpAnyH_take (i := 7) (v := undef) rfl (by kernel_rfl) (by kernel_rfl) (by kernel_rfl) (fun _ _ _ h => h) (Or.inr ⟨by rfl, rfl⟩) (by assumption) ?_; (try simp only [Act.put, List.getElem_toArray, List.getElem_cons_zero, List.getElem_cons_succ, List.setIfInBounds_toArray, List.set_cons_zero, List.set_cons_succ]))
        (refine wpAnyH_take (i := 8) (v := undef) rfl (by kernel_rfl) (by kernel_rfl) (by kernel_rfl) (fun _ _ _ h => h) (Or.inr ⟨by rfl, rfl⟩) (by assumption) ?_; (try simp only [Act.put, List.getElem_toArray, List.getElem_cons_zero, List.getElem_cons_succ, List.setIfInBounds_toArray, List.set_cons_zero, List.set_cons_succ]))
        (refine wpAnyH_take (i := 9) (v := ?_) rfl (by kernel_rfl) (by kernel_rfl) (by kernel_rfl) (fun _ _ _ h => h) (Or.inl ⟨by rfl, ?_⟩) (by assumption) ?_; (case' refine_2 => (intro w hSw; go_simp; try with_reducible rfl)); (try simp only [Act.put, List.getElem_toArray, List.getElem_cons_zero, List.getElem_cons_succ, List.setIfInBounds_toArray, List.set_cons_zero, List.set_cons_succ]))
        refine wpAnyH_done (by kernel_rfl) ?_ _
        have HB9 := Aside0.mk (rleft_below HL4.out (below_drew1 (Below.refl _ _))).2.1
        go_wp2_with (fail)
        go_ret2
        refine ⟨.slice none 0 0, by rw [HGC.out]; first | done | rfl, ?_, HB9.out⟩
        rw [HGC.out]
        exact Kd.R_nil _ _ _ _ _
end Go.Proofs.Ytfpkgdenohcglaa.Chn
/- chain.Put walked: a chain's bytes. -/
namespace Go.Proofs.Ytfpkgdenohcglaa.Chn
set_option linter.unusedVariables false
set_option linter.unusedSimpArgs false
open Go.RowKit Go.Proofs.Ytfpkgdenohcglaa.Lo Go.Proofs.Ytfpkgdenohcglaa.Base Go.Proofs.Ytfpkgdenohcglaa.TlvPlain Go.Proofs.Ytfpkgdenohcglaa.ShaPlain Go.Proofs.Ytfpkgdenohcglaa.Sha Go.Proofs.Ytfpkgdenohcglaa.Com Go.Proofs.Ytfpkgdenohcglaa.Aid Go.Proofs.YtfpkgdenohcglaaW.PrintWords Go.Proofs.YtfpkgdenohcglaaW.PrintLast Go.Proofs.YtfpkgdenohcglaaW.PrintMore
attribute [local irreducible] shaB
theorem putL_snoc (l : List Ent) (k : Nat) (hk : k < l.length) : putL (l.take (k + 1)) = putL (l.take k) ++ putE l[k] := by
  rw [take_snoc l k hk]
  unfold putL
  rw [List.flatMap_append]
  simp
theorem textB_len {l : List Int} (h : l.length ≤ 100000) : (textB l).length ≤ l.length + 9 := by
  unfold textB
  rw [List.length_append]
  have := numB_len (n := (l.length : Int)) (by omega)
  omega
theorem putE_le {x : Ent} (h : Eu x) (hp : (payE x).length ≤ 1000) : (putE x).length ≤ 1100 := by
  unfold putE
  have h1 := textB_len (l := payE x) (by omega)
  have h2 := numB_len h.s1
  have h3 := h.cl
  simp only [List.length_cons, List.length_append]
  omega
theorem putL_le : ∀ (l : List Ent), Lu' l → (∀ x ∈ l, (payE x).length ≤ 1000) → (putL l).length ≤ 1100 * l.length
  | [], _, _ => Nat.le_refl _
  | x :: l, h, hp => by
    have h1 := putE_le (h x List.mem_cons_self) (hp x List.mem_cons_self)
    have h2 := putL_le l (fun y hy => h y (List.mem_cons_of_mem _ hy)) (fun y hy => hp y (List.mem_cons_of_mem _ hy))
    rw [show putL (x :: l) = putE x ++ putL l from rfl, List.length_append, List.length_cons]
    omega
theorem rb_at {w : World} {ad : Addr} {d : List Int} {cs : List Value} (h : AtC w ad cs) (he : nums .u8 d = cs) (hl : d.length ≤ 9223372036854775807) : Rb w (some ad) d := by
  subst he
  refine ⟨rfl, hl, fun _ => ⟨_, rfl, fun j x hj => ⟨[.int .u8 x], rfl, rfl, fun i u hu => ?_⟩⟩⟩
  have hi0 : i = 0 := by
    have := (List.getElem?_eq_some_iff.1 hu).1
    simp at this
    exact this
  subst hi0
  simp only [List.getElem?_cons_zero, Option.some.injEq] at hu
  subst hu
  show w.cell? (ad.add (j * 1 + 0)) = _
  rw [show j * 1 + 0 = j by omega]
  refine h j _ ?_
  unfold nums
  rw [List.getElem?_map, hj]
  rfl
theorem c32_at {w : World} {ad : Addr} {d : List Int} {cs : List Value} (h : AtC w ad cs) (he : nums .u8 d = cs) (hl : d.length = 32) : Kd.C (Kd.int .u8) w (some ad) 32 d := by
  have h2 : Kd.C (Kd.int .u8) w (some ad) d.length d := rb_at h he (by rw [hl]; decide)
  rwa [hl] at h2
/-- A slice of rows that was just laid, read. -/
theorem rows_new {W : World} {e : TypeId} (xs : List (List Int)) (inner : List Value)
    (hi : inner.length = xs.length ∧ ∀ (j : Nat) (l : List Int), xs[j]? = some l → ∃ A c, inner[j]? = some (Value.slice A l.length c) ∧ l.length ≤ c ∧ Rb W A l) (hm : xs.length ≤ 9223372036854775807) :
    Rr (W.alloc (.cells inner.toArray e)) (some ⟨W.heap.size, 0, none⟩) xs := by
  refine ⟨rfl, hm, fun _ => ⟨_, rfl, fun j l hj => ?_⟩⟩
  obtain ⟨A, c, h1, h2, h3⟩ := hi.2 j l hj
  refine ⟨[.slice A l.length c], rfl, ⟨A, c, rfl, h2, Kd.C_alloc h3 _⟩, fun i u hu => ?_⟩
  have hi0 : i = 0 := by
    have := (List.getElem?_eq_some_iff.1 hu).1
    simp at this
    exact this
  subst hi0
  rw [show j * (Kd.slice 5 (Kd.int .u8)).sz + 0 = j from by show j * 1 + 0 = j; omega, add_plain]
  rw [World.cell?_alloc_new]
  rw [show inner.toArray[j]? = inner[j]? from by simp, h1]
  exact hu
theorem rows5 {W : World} {a b c d e : List Int} {A B C D E : Option Addr} {ka kb kc kd ke : Nat} (ha : Rb W A a) (la : a.length ≤ ka) (hb : Rb W B b) (lb : b.length ≤ kb) (hc : Rb W C c) (lc : c.length ≤ kc) (hd : Rb W D d) (ld : d.length ≤ kd) (he : Rb W E e) (le : e.length ≤ ke) :
    Rr (W.alloc (.cells #[.slice A a.length ka, .slice B b.length kb, .slice C c.length kc, .slice D d.length kd, .slice E e.length ke] 25)) (some ⟨W.heap.size, 0, none⟩) [a, b, c, d, e] := by
  refine rows_new [a, b, c, d, e] [.slice A a.length ka, .slice B b.length kb, .slice C c.length kc, .slice D d.length kd, .slice E e.length ke] ⟨rfl, fun j l hj => ?_⟩ (by simp)
  match j, hj with
  | 0, hj => cases hj; exact ⟨_, _, rfl, la, ha⟩
  | 1, hj => cases hj; exact ⟨_, _, rfl, lb, hb⟩
  | 2, hj => cases hj; exact ⟨_, _, rfl, lc, hc⟩
  | 3, hj => cases hj; exact ⟨_, _, rfl, ld, hd⟩
  | 4, hj => cases hj; exact ⟨_, _, rfl, le, he⟩
theorem info_text3 : (Try.prog.info? 25).map (fun i => (i.zero, i.size, i.bytes)) = some (some (.slice none 0 0), 1, 24) := by kernel_rfl
theorem run_rows5 (w : World) (A B C D E : Option Addr) (a b c d e ka kb kc kd ke : Nat) :
    (Instr.buildSlice 44 5 #[(0, .slice A a ka), (1, .slice B b kb), (2, .slice C c kc), (3, .slice D d kd), (4, .slice E e ke)]).run Try.prog w =
      .ok (.slice (some ⟨w.heap.size, 0, none⟩) 5 5) (w.alloc (.cells #[.slice A a ka, .slice B b kb, .slice C c kc, .slice D d kd, .slice E e ke] 25)) := by
  obtain ⟨i, hi, hz, hs, hb⟩ := info_parts info_text3
  refine run_buildSlice w 44 25 5 _ _ i _ Try.underlying44 hi hz (by rw [hs]; decide) (by rw [hs]; decide) ?_
  rw [hs]
  have hf := Great.fill_whole (s := 1) (by decide) [Value.slice A a ka, .slice B b kb, .slice C c kc, .slice D d kd, .slice E e ke] ((Array.range (5 * 1)).map ((Value.slice none 0 0).cells[· % (Value.slice none 0 0).cells.size]!)) (fun v hv => by
    simp only [List.mem_cons, List.not_mem_nil, or_false] at hv
    rcases hv with rfl | rfl | rfl | rfl | rfl <;> rfl) (by simp)
  refine Eq.trans ?_ (hf.trans ?_)
  · rfl
  · simp [Value.cells]
theorem wp_rows5 {o : Oper} {a : Act} {Q : Exit → Act → World → Prop} {K : Act → World → Prop} {w : World} (x0 x1 x2 x3 x4 : Operand) (ho : o.op = .buildSlice 44 5 #[(0, x0), (1, x1), (2, x2), (3, x3), (4, x4)]) (A B C D E : Option Addr) (n0 n1 n2 n3 n4 k0 k1 k2 k3 k4 : Nat)
    (h0 : a.eval x0 = .slice A n0 k0) (h1 : a.eval x1 = .slice B n1 k1) (h2 : a.eval x2 = .slice C n2 k2) (h3 : a.eval x3 = .slice D n3 k3) (h4 : a.eval x4 = .slice E n4 k4)
    (h : K (a.put o.dst (.slice (some ⟨w.heap.size, 0, none⟩) 5 5)) (w.alloc (.cells #[.slice A n0 k0, .slice B n1 k1, .slice C n2 k2, .slice D n3 k3, .slice E n4 k4] 25))) : Oper.wp Try.prog o a w K Q := by
  have hp : (#[((0 : Nat), x0), (1, x1), (2, x2), (3, x3), (4, x4)].map fun (i, y) => (i, a.eval y)) = #[(0, .slice A n0 k0), (1, .slice B n1 k1), (2, .slice C n2 k2), (3, .slice D n3 k3), (4, .slice E n4 k4)] := by simp [h0, h1, h2, h3, h4]
  unfold Oper.wp execOp
  simp only [ho, hp, Sem.run_bind, run_rows5 w, Result.andThen_ok]
  exact h
set_option maxHeartbeats 8000000 in
set_option maxRecDepth 100000 in
theorem put_c (l : List Ent) (m : Nat) (hl : l.length = m) (hm : m ≤ 1000) (hu : Lu' l) (hs : ∀ x ∈ l, (payE x).length ≤ 1000) (A : Option Addr) (c : Nat) (w : World) (hr : Re w A l) :
    Calls Try.prog 27 #[.slice A m c] w (Makes w (putC l)) := by
  unfold Makes
  have HF := Aside0.mk (And.intro hl (And.intro hm (And.intro hu hs)))
  have HRE := Aside0.mk hr
  obtain ⟨D, hD⟩ := sumC (headT l) (headT_len _)
  have HHD := Aside0.mk (fun V (hV : Below w.heap.size w V) => head_c l m hl (by omega) hu A c V (Kd.C_below hr hV))
  unfold Ret at HHD
  rw [hD.v] at HHD
  have HD := Aside0.mk hD
  have q9 : (m : Int) ≤ 1000 := by omega
  have HB0 := Aside0.mk (Below.refl w.heap.size w)
  clear hl hm hu hs hr hD
  go_enter Try.func27, Try.ntmps27
  go_wp2_with (fail)
  go_loopw [3, 5, 6, 10] (fun v _ _ i wx => ∃ k : Nat, k ≤ m ∧ i = .int .i64 k ∧ Aside0 (Ob wx w.heap.size v (putL (l.take k))) ∧ Below w.heap.size w wx) (fun _ _ _ i _ => m - (intOf i).toNat)
  case atStart => exact ⟨0, Nat.zero_le _, rfl, ⟨Kd.R_nil _ _ _ _ _⟩, HB0.out⟩
  case round =>
    clear HB0
    obtain ⟨k, hk, rfl, HO0, hb⟩ := hrel
    have HB0 := Aside0.mk hb
    clear hb
    obtain ⟨W, hwy⟩ : ∃ wy, wy = wr := ⟨_, rfl⟩
    subst hwy
    by_cases hlt : k < m
    · have hkl : k < l.length := by rw [HF.out.1]; exact hlt
      obtain ⟨ad, P, C, B, cb, rfl, hat, hC⟩ := re_at HRE.out k hkl
      have hE := HF.out.2.2.1 _ (List.getElem_mem hkl)
      have hpl := HF.out.2.2.2 _ (List.getElem_mem hkl)
      have HPS := Aside0.mk (putL_snoc l k hkl)
      have HPL := Aside0.mk (show (putL (l.take k)).length ≤ 1100000 from Nat.le_trans (putL_le _ (HF.out.2.2.1.take k) (fun y hy => HF.out.2.2.2 y (List.mem_of_mem_take hy))) (by rw [List.length_take]; have := HF.out.2.1; omega))
      obtain ⟨PV, hPV⟩ : ∃ t, putL (l.take k) = t := ⟨_, rfl⟩
      rw [hPV] at HPS HPL HO0
      obtain ⟨AV, cV, rfl⟩ := Kd.R_slice HO0.out
      obtain ⟨x, hx⟩ : ∃ x, l[k] = x := ⟨_, rfl⟩
      rw [hx] at hat hC hE hpl HPS
      have HIE := Aside0.mk hC.info
      have HIA := Aside0.mk (show (Try.prog.info? 27).map (·.size) = some (cE x P C B cb).toArray.size from by rw [List.size_toArray]; exact hC.info)
      have HOA := Aside0.mk hC.one
      have HSA := Aside0.mk (show zE.toArray.size = (cE x P C B cb).toArray.size from by rw [List.size_toArray, List.size_toArray, zE_len, hC.len])
      have HY := Aside0.mk (show (W.alloc (.cells zE.toArray 27)).heap[W.heap.size]? = some (.cells zE.toArray 27 (0, 0)) from blk_new _ _)
      have HSE := Aside0.mk (entAt_blk hC.fp.lenC hC.fc.lenC (setRow_heap (W.alloc (.cells zE.toArray 27)) W.heap.size zE.toArray (cE x P C B cb).toArray _ _ HY.out))
      have HAT := Aside0.mk (hat.below HB0.out)
      have HNU := Aside0.mk (fun V (hV : Below w.heap.size w V) => num_c (saltE x) V hE.s0 hE.s1)
      have HTX := Aside0.mk (fun V (hV : Below w.heap.size w V) => text_c B cb (payE x) V (Kd.C_below hC.r hV) hC.hc (by omega))
      have HNL := Aside0.mk (numB_len hE.s1)
      have HTL := Aside0.mk (Nat.le_trans (textB_len (l := payE x) (by omega)) (Nat.add_le_add_right hpl 9))
      unfold Makes at HNU HTX
      obtain ⟨cs, hcs⟩ : ∃ cs, cE x P C B cb = cs := ⟨_, rfl⟩
      rw [hcs] at HIE HIA HOA HSA HSE HAT
      have HB1 := Aside0.mk (show Below w.heap.size w ((W.alloc (.cells zE.toArray 27)).setRow W.heap.size cs.toArray) from below_setRow (below_alloc HB0.out _) HB0.out.size _)
      have HO1 := Aside0.mk (Kd.R_below HO0.out (show Below W.heap.size W ((W.alloc (.cells zE.toArray 27)).setRow W.heap.size cs.toArray) from below_setRow (below_alloc (Below.refl _ _) _) (Nat.le_refl _) _))
      have HK := Aside0.mk hlt
      have p0 : (0 : Int) ≤ (k : Int) := by omega
      have p1 : (k : Int) < (m : Int) := by omega
      have p2 : (k : Int) ≤ 1000 := by omega
      have HFC := Aside0.mk hC.fc
      have HPE := Aside0.mk (show putE x = flagE x :: (comE x ++ (numB (saltE x) ++ textB (payE x))) from rfl)
      have HFL := Aside0.mk (show flagE x = if redE x then 1 else 0 from rfl)
      clear hE hpl hC hat hx hcs hlt hk hkl HB0 HO0
      go_upto_region 5 with (first
        | ((with_reducible refine gate_dst (N := 13) rfl ?_); refine wpList_load_at rfl 27 (.tmp 12) rfl (ad.add (k * 68)) rfl cs _ HAT.out Try.underlying27 rfl HIE.out ?_)
        | ((with_reducible refine gate_store (t := 27) (p := 5) (v := .tmp 13) rfl ?_); refine wpList_store_row rfl 27 (.tmp 5) (.tmp 13) rfl W.heap.size cs.toArray rfl rfl 27 zE.toArray HY.out HIA.out HSA.out HOA.out ?_))
      obtain ⟨w1, hw1⟩ : ∃ V, (W.alloc (.cells zE.toArray 27)).setRow W.heap.size cs.toArray = V := ⟨_, rfl⟩
      rw [hw1] at HSE HB1 HO1
      rw [show (W.alloc (.cells Try.zeroCells27 27)).setRow W.heap.size cs.toArray = w1 from hw1]
      clear hw1 HY HAT HIE HIA HOA HSA
      obtain ⟨g, hg⟩ : ∃ g, W.heap.size = g := ⟨_, rfl⟩
      rw [hg] at HSE ⊢
      clear hg
      have HEB := Aside0.mk (show ∀ V, Below w1.heap.size w1 V → EntAt V g x P C B cb from fun V hV => HSE.out.below hV)
      obtain ⟨cm, hcm⟩ : ∃ t, comE x = t := ⟨_, rfl⟩
      obtain ⟨nx, hnx⟩ : ∃ t, numB (saltE x) = t := ⟨_, rfl⟩
      obtain ⟨tx, htx⟩ : ∃ t, textB (payE x) = t := ⟨_, rfl⟩
      rw [hcm] at HPE HFC
      rw [hnx] at HPE HNU HNL
      rw [htx] at HPE HTX HTL
      have hred := HSE.out.r
      obtain ⟨rd, hrd⟩ : ∃ t, redE x = t := ⟨_, rfl⟩
      obtain ⟨sl, hsl⟩ : ∃ t, saltE x = t := ⟨_, rfl⟩
      obtain ⟨pl, hpl⟩ : ∃ t, (payE x).length = t := ⟨_, rfl⟩
      have HALL := Aside0.mk (fun V (hV : Below w1.heap.size w1 V) => show V.cell? ⟨g, 65, none⟩ = some (.int .u64 (saltE x)) ∧ V.cell? ⟨g, 66, none⟩ = some (.slice B (payE x).length cb) from And.intro (HSE.out.below hV).sl (HSE.out.below hV).py)
      have HTX := Aside0.mk (fun V (hV : Below w1.heap.size w1 V) => HTX.out V (below_step HB1.out hV))
      have HNU := Aside0.mk (fun V (hV : Below w1.heap.size w1 V) => HNU.out V (below_step HB1.out hV))
      rw [hrd] at hred HFL
      rw [hsl] at HALL HNU
      rw [hpl] at HALL HTX
      clear hPV hcm hnx htx hrd hsl hpl HSE
      cases rd with
      | true =>
        rw [HFL.out, if_pos rfl] at HPE
        go_wp2_with (fail)
        clear hred
        refine wp_region_held_drew (S := fun V => V.cell? ⟨g, 65, none⟩ = some (.int .u64 sl) ∧ V.cell? ⟨g, 66, none⟩ = some (.slice B pl cb)) (by kernel_rfl) (HALL.out _ (below_drew1 (Below.refl _ _))) (fun hHeld => ?_)
        (refine wpAnyH_take (i := 0) (v := ?_) rfl (by kernel_rfl) (by kernel_rfl) (by kernel_rfl) (fun _ _ _ h => h) (Or.inl ⟨by rfl, ?_⟩) (by assumption) ?_; (case' refine_2 => (intro w hSw; go_simp; try with_reducible rfl)); (try simp only [Act.put, List.getElem_toArray, List.getElem_cons_zero, List.getElem_cons_succ, List.setIfInBounds_toArray, List.set_cons_zero, List.set_cons_succ]))
        (refine wpAnyH_take (i := 1) (v := ?_) rfl (by kernel_rfl) (by kernel_rfl) (by kernel_rfl) (fun _ _ _ h => h) (Or.inl ⟨by rfl, ?_⟩) (by assumption) ?_; (case' refine_2 => (intro w hSw; go_simp; try with_reducible rfl)); (try simp only [Act.put, List.getElem_toArray, List.getElem_cons_zero, List.getElem_cons_succ, List.setIfInBounds_toArray, List.set_cons_zero, List.set_cons_succ]))
        (refine wpAnyH_take (i := 3) (v := ?_) rfl (by kernel_rfl) (by kernel_rfl) (by kernel_rfl) (fun _ _ _ h => h) (Or.inl ⟨by rfl, ?_⟩) (by assumption) ?_; (case' refine_2 => (intro w hSw; go_simp; try with_reducible rfl)); (try simp only [Act.put, List.getElem_toArray, List.getElem_cons_zero, List.getElem_cons_succ, List.setIfInBounds_toArray, List.set_cons_zero, List.set_cons_succ]))
        (refine wpAnyH_take (i := 4) (v := ?_) rfl (by kernel_rfl) (by kernel_rfl) (by kernel_rfl) (fun _ _ _ h => h) (Or.inl ⟨by rfl, ?_⟩) (by assumption) ?_; (case' refine_2 => (intro w hSw; go_simp; try with_reducible rfl)); (try simp only [Act.put, List.getElem_toArray, List.getElem_cons_zero, List.getElem_cons_succ, List.setIfInBounds_toArray, List.set_cons_zero, List.set_cons_succ]))
        (refine wpAnyH_take (i := 5) (v := ?_) rfl (by kernel_rfl) (by kernel_rfl) (by kernel_rfl) (fun _ _ _ h => h) (Or.inl ⟨by rfl, ?_⟩) (by assumption) ?_; (case' refine_2 => (intro w hSw; go_simp; try with_reducible rfl)); (try simp only [Act.put, List.getElem_toArray, List.getElem_cons_zero, List.getElem_cons_succ, List.setIfInBounds_toArray, List.set_cons_zero, List.set_cons_succ]))
        (refine wpAnyH_take (i := 6) (v := ?_) rfl (by kernel_rfl) (by kernel_rfl) (by kernel_rfl) (fun _ _ _ h => h) (Or.inl ⟨by rfl, ?_⟩) (by assumption) ?_; (case' refine_2 => (intro w hSw; go_simp; try with_reducible rfl)); (try simp only [Act.put, List.getElem_toArray, List.getElem_cons_zero, List.getElem_cons_succ, List.setIfInBounds_toArray, List.set_cons_zero, List.set_cons_succ]))
        (refine wpAnyH_take (i := 8) (v := ?_) rfl (by kernel_rfl) (by kernel_rfl) (by kernel_rfl) (fun _ _ _ h => h) (Or.inl ⟨by rfl, ?_⟩) (by assumption) ?_; (case' refine_2 => (intro w hSw; go_simp; try with_reducible rfl)); (try simp only [Act.put, List.getElem_toArray, List.getElem_cons_zero, List.getElem_cons_succ, List.setIfInBounds_toArray, List.set_cons_zero, List.set_cons_succ]))
        (refine wpAnyH_take (i := 9) (v := ?_) rfl (by kernel_rfl) (by kernel_rfl) (by kernel_rfl) (fun _ _ _ h => h) (Or.inl ⟨by rfl, ?_⟩) (by assumption) ?_; (case' refine_2 => (intro w hSw; go_simp; try with_reducible rfl)); (try simp only [Act.put, List.getElem_toArray, List.getElem_cons_zero, List.getElem_cons_succ, List.setIfInBounds_toArray, List.set_cons_zero, List.set_cons_succ]))
        have HBS := Aside0.mk (below_drew1 (Below.refl w1.heap.size w1))
        have HOS := Aside0.mk (Kd.R_drew HO1.out)
        refine wpAnyH_ready (rs := [2, 7]) (by kernel_rfl) (by simp) (AllReadyH.cons rfl (fun K hK => ?_) (AllReadyH.cons rfl (fun K hK => ?_) AllReadyH.nil))
        · refine Kd.R_lit_step (Kd.int .u8) (w0 := w1) w1.heap.size 5 rfl (N := 18) rfl (xs := [1]) (inner := [.int .u8 1]) (ok := fun _ => True) (okp := fun _ => True) (by first | (go_simp; done) | (go_simp; rfl)) ⟨rfl, fun j p hj => ?_⟩ (fun _ hk => hk) trivial HBS.out HBS.out.size (by simp) ?_
          · match j, hj with
            | 0, hj => cases hj; rfl
          intro vl zz1 ho hb hg hat
          obtain ⟨AL, cL, rfl⟩ := Kd.R_slice ho
          have HX2_1 := Aside0.mk (show Ob zz1 w1.heap.size _ [1] from ho)
          have HB_1 := Aside0.mk hb
          have HO_1 := Aside0.mk (Kd.R_grown HOS.out hg (fun k _ h => by cases h))
          clear ho hb hg hat
          (refine Shut.out hK _ _ (HALL.out _ HB_1.out) (fun hHeld => ?_); clear hK K; (try simp only [Act.put, List.getElem_toArray, List.getElem_cons_zero, List.getElem_cons_succ, List.setIfInBounds_toArray, List.set_cons_zero, List.set_cons_succ]))
          refine wpAnyH_ready (rs := [7]) (by kernel_rfl) (by simp) (AllReadyH.cons rfl (fun K hK => ?_) AllReadyH.nil)
          · go_simp
            refine (HNU.out _ HB_1.out).mono ?_
            rintro e zz2 ⟨vx, rfl, ho, hb⟩
            obtain ⟨AN, cN, rfl⟩ := Kd.R_slice ho
            have HX7_2 := Aside0.mk (show Ob zz2 w1.heap.size _ nx from Kd.R_lower ho HB_1.out.size)
            have HB_2 := Aside0.mk (below_step HB_1.out hb)
            have HO_2 := Aside0.mk (Kd.R_below HO_1.out hb)
            have HX2_2 := Aside0.mk (Kd.R_below HX2_1.out hb)
            clear ho hb
            (refine Shut.out hK _ _ (HALL.out _ HB_2.out) (fun hHeld => ?_); clear hK K; (try simp only [Act.put, List.getElem_toArray, List.getElem_cons_zero, List.getElem_cons_succ, List.setIfInBounds_toArray, List.set_cons_zero, List.set_cons_succ]))
            refine wpAnyH_ready (rs := [10]) (by kernel_rfl) (by simp) (AllReadyH.cons rfl (fun K hK => ?_) AllReadyH.nil)
            · go_simp
              refine (HTX.out _ HB_2.out).mono ?_
              rintro e zz3 ⟨vx, rfl, ho, hb⟩
              obtain ⟨AT, cT, rfl⟩ := Kd.R_slice ho
              have HX10_3 := Aside0.mk (show Ob zz3 w1.heap.size _ tx from Kd.R_lower ho HB_2.out.size)
              have HB_3 := Aside0.mk (below_step HB_2.out hb)
              have HO_3 := Aside0.mk (Kd.R_below HO_2.out hb)
              have HX2_3 := Aside0.mk (Kd.R_below HX2_2.out hb)
              have HX7_3 := Aside0.mk (Kd.R_below HX7_2.out hb)
              clear ho hb
              (refine Shut.out hK _ _ (HALL.out _ HB_3.out) (fun hHeld => ?_); clear hK K; (try simp only [Act.put, List.getElem_toArray, List.getElem_cons_zero, List.getElem_cons_succ, List.setIfInBounds_toArray, List.set_cons_zero, List.set_cons_succ]))
              obtain ⟨_, m2_, r2_⟩ := Kd.R_reads' HX2_3.out
              obtain ⟨_, m7_, r7_⟩ := Kd.R_reads' HX7_3.out
              obtain ⟨_, m10_, r10_⟩ := Kd.R_reads' HX10_3.out
              obtain ⟨_, m3_, r3_⟩ := Kd.R_reads' HO_3.out
              have HRW := rows5 r3_ m3_ r2_ m2_ (rb_at (HEB.out _ HB_3.out).fc HFC.out.eq (by rw [HFC.out.len]; decide)) (show cm.length ≤ 32 by rw [HFC.out.len]; exact Nat.le_refl _) r7_ m7_ r10_ m10_
              rw [HFC.out.len] at HRW
              have HRW := Aside0.mk HRW
              clear m2_ m7_ m10_ m3_ r2_ r7_ r10_ r3_
              refine wpAnyH_ready (rs := [11]) (by kernel_rfl) (by simp) (AllReadyH.cons rfl (fun K hK => ?_) AllReadyH.nil)
              refine wp_rows5 (.tmp 16) (.tmp 18) (.tmp 20) (.tmp 23) (.tmp 26) rfl AV AL (some ⟨g, 33, none⟩) AN AT PV.length 1 32 nx.length tx.length cV cL 32 cN cT rfl rfl rfl rfl rfl ?_
              (refine Shut.out hK _ _ (HALL.out _ (below_alloc HB_3.out _)) (fun hHeld => ?_); clear hK K; (try simp only [Act.put, List.getElem_toArray, List.getElem_cons_zero, List.getElem_cons_succ, List.setIfInBounds_toArray, List.set_cons_zero, List.set_cons_succ]))
              (refine wpAnyH_ready (rs := [12]) (by kernel_rfl) (by simp) (AllReadyH.cons rfl (fun K hK => ?_) AllReadyH.nil); go_simp)
              refine (all_c (some ⟨zz3.heap.size, 0, none⟩) 5 [PV, [1], cm, nx, tx] _ HRW.out (by simp) (by simp) (by have := HPL.out; have := HFC.out.len; have := HNL.out; have := HTL.out; simp only [List.flatten_cons, List.flatten_nil, List.length_append, List.length_singleton, List.length_nil]; omega)).mono ?_
              rintro e wz ⟨v, rfl, ho, hb⟩
              have HBZ := Aside0.mk (below_step (below_alloc HB_3.out _) hb)
              rw [show [PV, [1], cm, nx, tx].flatten = putL (l.take (k + 1)) from by rw [HPS.out, HPE.out]; simp] at ho
              have HOZ := Aside0.mk (show Ob wz w.heap.size v (putL (l.take (k + 1))) from Kd.R_lower ho (Nat.le_trans HB1.out.size (below_alloc HB_3.out _).size))
              clear ho hb
              (refine Shut.out hK _ _ (HALL.out _ HBZ.out) (fun hHeld => ?_); clear hK K; (try simp only [Act.put, List.getElem_toArray, List.getElem_cons_zero, List.getElem_cons_succ, List.setIfInBounds_toArray, List.set_cons_zero, List.set_cons_succ]))
              (refine wpAnyH_take (i := 13) (v := ?_) rfl (by kernel_rfl) (by kernel_rfl) (by kernel_rfl) (fun _ _ _ h => h) (Or.inl ⟨by rfl, ?_⟩) (by assumption) ?_; (case' refine_2 => (intro w hSw; go_simp; try with_reducible rfl)); (try simp only [Act.put, List.getElem_toArray, List.getElem_cons_zero, List.getElem_cons_succ, List.setIfInBounds_toArray, List.set_cons_zero, List.set_cons_succ]))
              refine wpAnyH_done (by kernel_rfl) ?_ _
              go_wp2_with (fail)
              go_roundw
              case rel => exact ⟨k + 1, by have := HK.out; omega, by go_num, ⟨HOZ.out⟩, below_step HB1.out HBZ.out⟩
              case measure => have := HK.out; simp [intOf]; omega
        · go_simp
          refine (HNU.out _ HBS.out).mono ?_
          rintro e zz4 ⟨vx, rfl, ho, hb⟩
          obtain ⟨AN, cN, rfl⟩ := Kd.R_slice ho
          have HX7_4 := Aside0.mk (show Ob zz4 w1.heap.size _ nx from Kd.R_lower ho HBS.out.size)
          have HB_4 := Aside0.mk (below_step HBS.out hb)
          have HO_4 := Aside0.mk (Kd.R_below HOS.out hb)
          clear ho hb
          (refine Shut.out hK _ _ (HALL.out _ HB_4.out) (fun hHeld => ?_); clear hK K; (try simp only [Act.put, List.getElem_toArray, List.getElem_cons_zero, List.getElem_cons_succ, List.setIfInBounds_toArray, List.set_cons_zero, List.set_cons_succ]))
          refine wpAnyH_ready (rs := [2, 10]) (by kernel_rfl) (by simp) (AllReadyH.cons rfl (fun K hK => ?_) (AllReadyH.cons rfl (fun K hK => ?_) AllReadyH.nil))
          · refine Kd.R_lit_step (Kd.int .u8) (w0 := w1) w1.heap.size 5 rfl (N := 18) rfl (xs := [1]) (inner := [.int .u8 1]) (ok := fun _ => True) (okp := fun _ => True) (by first | (go_simp; done) | (go_simp; rfl)) ⟨rfl, fun j p hj => ?_⟩ (fun _ hk => hk) trivial HB_4.out HB_4.out.size (by simp) ?_
            · match j, hj with
              | 0, hj => cases hj; rfl
            intro vl zz5 ho hb hg hat
            obtain ⟨AL, cL, rfl⟩ := Kd.R_slice ho
            have HX2_5 := Aside0.mk (show Ob zz5 w1.heap.size _ [1] from ho)
            have HB_5 := Aside0.mk hb
            have HO_5 := Aside0.mk (Kd.R_grown HO_4.out hg (fun k _ h => by cases h))
            have HX7_5 := Aside0.mk (Kd.R_grown HX7_4.out hg (fun k _ h => by cases h))
            clear ho hb hg hat
            (refine Shut.out hK _ _ (HALL.out _ HB_5.out) (fun hHeld => ?_); clear hK K; (try simp only [Act.put, List.getElem_toArray, List.getElem_cons_zero, List.getElem_cons_succ, List.setIfInBounds_toArray, List.set_cons_zero, List.set_cons_succ]))
            refine wpAnyH_ready (rs := [10]) (by kernel_rfl) (by simp) (AllReadyH.cons rfl (fun K hK => ?_) AllReadyH.nil)
            · go_simp
              refine (HTX.out _ HB_5.out).mono ?_
              rintro e zz6 ⟨vx, rfl, ho, hb⟩
              obtain ⟨AT, cT, rfl⟩ := Kd.R_slice ho
              have HX10_6 := Aside0.mk (show Ob zz6 w1.heap.size _ tx from Kd.R_lower ho HB_5.out.size)
              have HB_6 := Aside0.mk (below_step HB_5.out hb)
              have HO_6 := Aside0.mk (Kd.R_below HO_5.out hb)
              have HX7_6 := Aside0.mk (Kd.R_below HX7_5.out hb)
              have HX2_6 := Aside0.mk (Kd.R_below HX2_5.out hb)
              clear ho hb
              (refine Shut.out hK _ _ (HALL.out _ HB_6.out) (fun hHeld => ?_); clear hK K; (try simp only [Act.put, List.getElem_toArray, List.getElem_cons_zero, List.getElem_cons_succ, List.setIfInBounds_toArray, List.set_cons_zero, List.set_cons_succ]))
              obtain ⟨_, m2_, r2_⟩ := Kd.R_reads' HX2_6.out
              obtain ⟨_, m7_, r7_⟩ := Kd.R_reads' HX7_6.out
              obtain ⟨_, m10_, r10_⟩ := Kd.R_reads' HX10_6.out
              obtain ⟨_, m3_, r3_⟩ := Kd.R_reads' HO_6.out
              have HRW := rows5 r3_ m3_ r2_ m2_ (rb_at (HEB.out _ HB_6.out).fc HFC.out.eq (by rw [HFC.out.len]; decide)) (show cm.length ≤ 32 by rw [HFC.out.len]; exact Nat.le_refl _) r7_ m7_ r10_ m10_
              rw [HFC.out.len] at HRW
              have HRW := Aside0.mk HRW
              clear m2_ m7_ m10_ m3_ r2_ r7_ r10_ r3_
              refine wpAnyH_ready (rs := [11]) (by kernel_rfl) (by simp) (AllReadyH.cons rfl (fun K hK => ?_) AllReadyH.nil)
              refine wp_rows5 (.tmp 16) (.tmp 18) (.tmp 20) (.tmp 23) (.tmp 26) rfl AV AL (some ⟨g, 33, none⟩) AN AT PV.length 1 32 nx.length tx.length cV cL 32 cN cT rfl rfl rfl rfl rfl ?_
              (refine Shut.out hK _ _ (HALL.out _ (below_alloc HB_6.out _)) (fun hHeld => ?_); clear hK K; (try simp only [Act.put, List.getElem_toArray, List.getElem_cons_zero, List.getElem_cons_succ, List.setIfInBounds_toArray, List.set_cons_zero, List.set_cons_succ]))
              (refine wpAnyH_ready (rs := [12]) (by kernel_rfl) (by simp) (AllReadyH.cons rfl (fun K hK => ?_) AllReadyH.nil); go_simp)
              refine (all_c (some ⟨zz6.heap.size, 0, none⟩) 5 [PV, [1], cm, nx, tx] _ HRW.out (by simp) (by simp) (by have := HPL.out; have := HFC.out.len; have := HNL.out; have := HTL.out; simp only [List.flatten_cons, List.flatten_nil, List.length_append, List.length_singleton, List.length_nil]; omega)).mono ?_
              rintro e wz ⟨v, rfl, ho, hb⟩
              have HBZ := Aside0.mk (below_step (below_alloc HB_6.out _) hb)
              rw [show [PV, [1], cm, nx, tx].flatten = putL (l.take (k + 1)) from by rw [HPS.out, HPE.out]; simp] at ho
              have HOZ := Aside0.mk (show Ob wz w.heap.size v (putL (l.take (k + 1))) from Kd.R_lower ho (Nat.le_trans HB1.out.size (below_alloc HB_6.out _).size))
              clear ho hb
              (refine Shut.out hK _ _ (HALL.out _ HBZ.out) (fun hHeld => ?_); clear hK K; (try simp only [Act.put, List.getElem_toArray, List.getElem_cons_zero, List.getElem_cons_succ, List.setIfInBounds_toArray, List.set_cons_zero, List.set_cons_succ]))
              (refine wpAnyH_take (i := 13) (v := ?_) rfl (by kernel_rfl) (by kernel_rfl) (by kernel_rfl) (fun _ _ _ h => h) (Or.inl ⟨by rfl, ?_⟩) (by assumption) ?_; (case' refine_2 => (intro w hSw; go_simp; try with_reducible rfl)); (try simp only [Act.put, List.getElem_toArray, List.getElem_cons_zero, List.getElem_cons_succ, List.setIfInBounds_toArray, List.set_cons_zero, List.set_cons_succ]))
              refine wpAnyH_done (by kernel_rfl) ?_ _
              go_wp2_with (fail)
              go_roundw
              case rel => exact ⟨k + 1, by have := HK.out; omega, by go_num, ⟨HOZ.out⟩, below_step HB1.out HBZ.out⟩
              case measure => have := HK.out; simp [intOf]; omega
          · go_simp
            refine (HTX.out _ HB_4.out).mono ?_
            rintro e zz7 ⟨vx, rfl, ho, hb⟩
            obtain ⟨AT, cT, rfl⟩ := Kd.R_slice ho
            have HX10_7 := Aside0.mk (show Ob zz7 w1.heap.size _ tx from Kd.R_lower ho HB_4.out.size)
            have HB_7 := Aside0.mk (below_step HB_4.out hb)
            have HO_7 := Aside0.mk (Kd.R_below HO_4.out hb)
            have HX7_7 := Aside0.mk (Kd.R_below HX7_4.out hb)
            clear ho hb
            (refine Shut.out hK _ _ (HALL.out _ HB_7.out) (fun hHeld => ?_); clear hK K; (try simp only [Act.put, List.getElem_toArray, List.getElem_cons_zero, List.getElem_cons_succ, List.setIfInBounds_toArray, List.set_cons_zero, List.set_cons_succ]))
            refine wpAnyH_ready (rs := [2]) (by kernel_rfl) (by simp) (AllReadyH.cons rfl (fun K hK => ?_) AllReadyH.nil)
            · refine Kd.R_lit_step (Kd.int .u8) (w0 := w1) w1.heap.size 5 rfl (N := 18) rfl (xs := [1]) (inner := [.int .u8 1]) (ok := fun _ => True) (okp := fun _ => True) (by first | (go_simp; done) | (go_simp; rfl)) ⟨rfl, fun j p hj => ?_⟩ (fun _ hk => hk) trivial HB_7.out HB_7.out.size (by simp) ?_
              · match j, hj with
                | 0, hj => cases hj; rfl
              intro vl zz8 ho hb hg hat
              obtain ⟨AL, cL, rfl⟩ := Kd.R_slice ho
              have HX2_8 := Aside0.mk (show Ob zz8 w1.heap.size _ [1] from ho)
              have HB_8 := Aside0.mk hb
              have HO_8 := Aside0.mk (Kd.R_grown HO_7.out hg (fun k _ h => by cases h))
              have HX7_8 := Aside0.mk (Kd.R_grown HX7_7.out hg (fun k _ h => by cases h))
              have HX10_8 := Aside0.mk (Kd.R_grown HX10_7.out hg (fun k _ h => by cases h))
              clear ho hb hg hat
              (refine Shut.out hK _ _ (HALL.out _ HB_8.out) (fun hHeld => ?_); clear hK K; (try simp only [Act.put, List.getElem_toArray, List.getElem_cons_zero, List.getElem_cons_succ, List.setIfInBounds_toArray, List.set_cons_zero, List.set_cons_succ]))
              obtain ⟨_, m2_, r2_⟩ := Kd.R_reads' HX2_8.out
              obtain ⟨_, m7_, r7_⟩ := Kd.R_reads' HX7_8.out
              obtain ⟨_, m10_, r10_⟩ := Kd.R_reads' HX10_8.out
              obtain ⟨_, m3_, r3_⟩ := Kd.R_reads' HO_8.out
              have HRW := rows5 r3_ m3_ r2_ m2_ (rb_at (HEB.out _ HB_8.out).fc HFC.out.eq (by rw [HFC.out.len]; decide)) (show cm.length ≤ 32 by rw [HFC.out.len]; exact Nat.le_refl _) r7_ m7_ r10_ m10_
              rw [HFC.out.len] at HRW
              have HRW := Aside0.mk HRW
              clear m2_ m7_ m10_ m3_ r2_ r7_ r10_ r3_
              refine wpAnyH_ready (rs := [11]) (by kernel_rfl) (by simp) (AllReadyH.cons rfl (fun K hK => ?_) AllReadyH.nil)
              refine wp_rows5 (.tmp 16) (.tmp 18) (.tmp 20) (.tmp 23) (.tmp 26) rfl AV AL (some ⟨g, 33, none⟩) AN AT PV.length 1 32 nx.length tx.length cV cL 32 cN cT rfl rfl rfl rfl rfl ?_
              (refine Shut.out hK _ _ (HALL.out _ (below_alloc HB_8.out _)) (fun hHeld => ?_); clear hK K; (try simp only [Act.put, List.getElem_toArray, List.getElem_cons_zero, List.getElem_cons_succ, List.setIfInBounds_toArray, List.set_cons_zero, List.set_cons_succ]))
              (refine wpAnyH_ready (rs := [12]) (by kernel_rfl) (by simp) (AllReadyH.cons rfl (fun K hK => ?_) AllReadyH.nil); go_simp)
              refine (all_c (some ⟨zz8.heap.size, 0, none⟩) 5 [PV, [1], cm, nx, tx] _ HRW.out (by simp) (by simp) (by have := HPL.out; have := HFC.out.len; have := HNL.out; have := HTL.out; simp only [List.flatten_cons, List.flatten_nil, List.length_append, List.length_singleton, List.length_nil]; omega)).mono ?_
              rintro e wz ⟨v, rfl, ho, hb⟩
              have HBZ := Aside0.mk (below_step (below_alloc HB_8.out _) hb)
              rw [show [PV, [1], cm, nx, tx].flatten = putL (l.take (k + 1)) from by rw [HPS.out, HPE.out]; simp] at ho
              have HOZ := Aside0.mk (show Ob wz w.heap.size v (putL (l.take (k + 1))) from Kd.R_lower ho (Nat.le_trans HB1.out.size (below_alloc HB_8.out _).size))
              clear ho hb
              (refine Shut.out hK _ _ (HALL.out _ HBZ.out) (fun hHeld => ?_); clear hK K; (try simp only [Act.put, List.getElem_toArray, List.getElem_cons_zero, List.getElem_cons_succ, List.setIfInBounds_toArray, List.set_cons_zero, List.set_cons_succ]))
              (refine wpAnyH_take (i := 13) (v := ?_) rfl (by kernel_rfl) (by kernel_rfl) (by kernel_rfl) (fun _ _ _ h => h) (Or.inl ⟨by rfl, ?_⟩) (by assumption) ?_; (case' refine_2 => (intro w hSw; go_simp; try with_reducible rfl)); (try simp only [Act.put, List.getElem_toArray, List.getElem_cons_zero, List.getElem_cons_succ, List.setIfInBounds_toArray, List.set_cons_zero, List.set_cons_succ]))
              refine wpAnyH_done (by kernel_rfl) ?_ _
              go_wp2_with (fail)
              go_roundw
              case rel => exact ⟨k + 1, by have := HK.out; omega, by go_num, ⟨HOZ.out⟩, below_step HB1.out HBZ.out⟩
              case measure => have := HK.out; simp [intOf]; omega
      | false =>
        rw [HFL.out, if_neg Bool.false_ne_true] at HPE
        go_wp2_with (fail)
        clear hred
        refine wp_region_held_drew (S := fun V => V.cell? ⟨g, 65, none⟩ = some (.int .u64 sl) ∧ V.cell? ⟨g, 66, none⟩ = some (.slice B pl cb)) (by kernel_rfl) (HALL.out _ (below_drew1 (Below.refl _ _))) (fun hHeld => ?_)
        (refine wpAnyH_take (i := 0) (v := ?_) rfl (by kernel_rfl) (by kernel_rfl) (by kernel_rfl) (fun _ _ _ h => h) (Or.inl ⟨by rfl, ?_⟩) (by assumption) ?_; (case' refine_2 => (intro w hSw; go_simp; try with_reducible rfl)); (try simp only [Act.put, List.getElem_toArray, List.getElem_cons_zero, List.getElem_cons_succ, List.setIfInBounds_toArray, List.set_cons_zero, List.set_cons_succ]))
        (refine wpAnyH_take (i := 1) (v := ?_) rfl (by kernel_rfl) (by kernel_rfl) (by kernel_rfl) (fun _ _ _ h => h) (Or.inl ⟨by rfl, ?_⟩) (by assumption) ?_; (case' refine_2 => (intro w hSw; go_simp; try with_reducible rfl)); (try simp only [Act.put, List.getElem_toArray, List.getElem_cons_zero, List.getElem_cons_succ, List.setIfInBounds_toArray, List.set_cons_zero, List.set_cons_succ]))
        (refine wpAnyH_take (i := 3) (v := ?_) rfl (by kernel_rfl) (by kernel_rfl) (by kernel_rfl) (fun _ _ _ h => h) (Or.inl ⟨by rfl, ?_⟩) (by assumption) ?_; (case' refine_2 => (intro w hSw; go_simp; try with_reducible rfl)); (try simp only [Act.put, List.getElem_toArray, List.getElem_cons_zero, List.getElem_cons_succ, List.setIfInBounds_toArray, List.set_cons_zero, List.set_cons_succ]))
        (refine wpAnyH_take (i := 4) (v := ?_) rfl (by kernel_rfl) (by kernel_rfl) (by kernel_rfl) (fun _ _ _ h => h) (Or.inl ⟨by rfl, ?_⟩) (by assumption) ?_; (case' refine_2 => (intro w hSw; go_simp; try with_reducible rfl)); (try simp only [Act.put, List.getElem_toArray, List.getElem_cons_zero, List.getElem_cons_succ, List.setIfInBounds_toArray, List.set_cons_zero, List.set_cons_succ]))
        (refine wpAnyH_take (i := 5) (v := ?_) rfl (by kernel_rfl) (by kernel_rfl) (by kernel_rfl) (fun _ _ _ h => h) (Or.inl ⟨by rfl, ?_⟩) (by assumption) ?_; (case' refine_2 => (intro w hSw; go_simp; try with_reducible rfl)); (try simp only [Act.put, List.getElem_toArray, List.getElem_cons_zero, List.getElem_cons_succ, List.setIfInBounds_toArray, List.set_cons_zero, List.set_cons_succ]))
        (refine wpAnyH_take (i := 6) (v := ?_) rfl (by kernel_rfl) (by kernel_rfl) (by kernel_rfl) (fun _ _ _ h => h) (Or.inl ⟨by rfl, ?_⟩) (by assumption) ?_; (case' refine_2 => (intro w hSw; go_simp; try with_reducible rfl)); (try simp only [Act.put, List.getElem_toArray, List.getElem_cons_zero, List.getElem_cons_succ, List.setIfInBounds_toArray, List.set_cons_zero, List.set_cons_succ]))
        (refine wpAnyH_take (i := 8) (v := ?_) rfl (by kernel_rfl) (by kernel_rfl) (by kernel_rfl) (fun _ _ _ h => h) (Or.inl ⟨by rfl, ?_⟩) (by assumption) ?_; (case' refine_2 => (intro w hSw; go_simp; try with_reducible rfl)); (try simp only [Act.put, List.getElem_toArray, List.getElem_cons_zero, List.getElem_cons_succ, List.setIfInBounds_toArray, List.set_cons_zero, List.set_cons_succ]))
        (refine wpAnyH_take (i := 9) (v := ?_) rfl (by kernel_rfl) (by kernel_rfl) (by kernel_rfl) (fun _ _ _ h => h) (Or.inl ⟨by rfl, ?_⟩) (by assumption) ?_; (case' refine_2 => (intro w hSw; go_simp; try with_reducible rfl)); (try simp only [Act.put, List.getElem_toArray, List.getElem_cons_zero, List.getElem_cons_succ, List.setIfInBounds_toArray, List.set_cons_zero, List.set_cons_succ]))
        have HBS := Aside0.mk (below_drew1 (Below.refl w1.heap.size w1))
        have HOS := Aside0.mk (Kd.R_drew HO1.out)
        refine wpAnyH_ready (rs := [2, 7]) (by kernel_rfl) (by simp) (AllReadyH.cons rfl (fun K hK => ?_) (AllReadyH.cons rfl (fun K hK => ?_) AllReadyH.nil))
        · refine Kd.R_lit_step (Kd.int .u8) (w0 := w1) w1.heap.size 5 rfl (N := 18) rfl (xs := [0]) (inner := [.int .u8 0]) (ok := fun _ => True) (okp := fun _ => True) (by first | (go_simp; done) | (go_simp; rfl)) ⟨rfl, fun j p hj => ?_⟩ (fun _ hk => hk) trivial HBS.out HBS.out.size (by simp) ?_
          · match j, hj with
            | 0, hj => cases hj; rfl
          intro vl zz9 ho hb hg hat
          obtain ⟨AL, cL, rfl⟩ := Kd.R_slice ho
          have HX2_9 := Aside0.mk (show Ob zz9 w1.heap.size _ [0] from ho)
          have HB_9 := Aside0.mk hb
          have HO_9 := Aside0.mk (Kd.R_grown HOS.out hg (fun k _ h => by cases h))
          clear ho hb hg hat
          (refine Shut.out hK _ _ (HALL.out _ HB_9.out) (fun hHeld => ?_); clear hK K; (try simp only [Act.put, List.getElem_toArray, List.getElem_cons_zero, List.getElem_cons_succ, List.setIfInBounds_toArray, List.set_cons_zero, List.set_cons_succ]))
          refine wpAnyH_ready (rs := [7]) (by kernel_rfl) (by simp) (AllReadyH.cons rfl (fun K hK => ?_) AllReadyH.nil)
          · go_simp
            refine (HNU.out _ HB_9.out).mono ?_
            rintro e zz10 ⟨vx, rfl, ho, hb⟩
            obtain ⟨AN, cN, rfl⟩ := Kd.R_slice ho
            have HX7_10 := Aside0.mk (show Ob zz10 w1.heap.size _ nx from Kd.R_lower ho HB_9.out.size)
            have HB_10 := Aside0.mk (below_step HB_9.out hb)
            have HO_10 := Aside0.mk (Kd.R_below HO_9.out hb)
            have HX2_10 := Aside0.mk (Kd.R_below HX2_9.out hb)
            clear ho hb
            (refine Shut.out hK _ _ (HALL.out _ HB_10.out) (fun hHeld => ?_); clear hK K; (try simp only [Act.put, List.getElem_toArray, List.getElem_cons_zero, List.getElem_cons_succ, List.setIfInBounds_toArray, List.set_cons_zero, List.set_cons_succ]))
            refine wpAnyH_ready (rs := [10]) (by kernel_rfl) (by simp) (AllReadyH.cons rfl (fun K hK => ?_) AllReadyH.nil)
            · go_simp
              refine (HTX.out _ HB_10.out).mono ?_
              rintro e zz11 ⟨vx, rfl, ho, hb⟩
              obtain ⟨AT, cT, rfl⟩ := Kd.R_slice ho
              have HX10_11 := Aside0.mk (show Ob zz11 w1.heap.size _ tx from Kd.R_lower ho HB_10.out.size)
              have HB_11 := Aside0.mk (below_step HB_10.out hb)
              have HO_11 := Aside0.mk (Kd.R_below HO_10.out hb)
              have HX2_11 := Aside0.mk (Kd.R_below HX2_10.out hb)
              have HX7_11 := Aside0.mk (Kd.R_below HX7_10.out hb)
              clear ho hb
              (refine Shut.out hK _ _ (HALL.out _ HB_11.out) (fun hHeld => ?_); clear hK K; (try simp only [Act.put, List.getElem_toArray, List.getElem_cons_zero, List.getElem_cons_succ, List.setIfInBounds_toArray, List.set_cons_zero, List.set_cons_succ]))
              obtain ⟨_, m2_, r2_⟩ := Kd.R_reads' HX2_11.out
              obtain ⟨_, m7_, r7_⟩ := Kd.R_reads' HX7_11.out
              obtain ⟨_, m10_, r10_⟩ := Kd.R_reads' HX10_11.out
              obtain ⟨_, m3_, r3_⟩ := Kd.R_reads' HO_11.out
              have HRW := rows5 r3_ m3_ r2_ m2_ (rb_at (HEB.out _ HB_11.out).fc HFC.out.eq (by rw [HFC.out.len]; decide)) (show cm.length ≤ 32 by rw [HFC.out.len]; exact Nat.le_refl _) r7_ m7_ r10_ m10_
              rw [HFC.out.len] at HRW
              have HRW := Aside0.mk HRW
              clear m2_ m7_ m10_ m3_ r2_ r7_ r10_ r3_
              refine wpAnyH_ready (rs := [11]) (by kernel_rfl) (by simp) (AllReadyH.cons rfl (fun K hK => ?_) AllReadyH.nil)
              refine wp_rows5 (.tmp 16) (.tmp 18) (.tmp 20) (.tmp 23) (.tmp 26) rfl AV AL (some ⟨g, 33, none⟩) AN AT PV.length 1 32 nx.length tx.length cV cL 32 cN cT rfl rfl rfl rfl rfl ?_
              (refine Shut.out hK _ _ (HALL.out _ (below_alloc HB_11.out _)) (fun hHeld => ?_); clear hK K; (try simp only [Act.put, List.getElem_toArray, List.getElem_cons_zero, List.getElem_cons_succ, List.setIfInBounds_toArray, List.set_cons_zero, List.set_cons_succ]))
              (refine wpAnyH_ready (rs := [12]) (by kernel_rfl) (by simp) (AllReadyH.cons rfl (fun K hK => ?_) AllReadyH.nil); go_simp)
              refine (all_c (some ⟨zz11.heap.size, 0, none⟩) 5 [PV, [0], cm, nx, tx] _ HRW.out (by simp) (by simp) (by have := HPL.out; have := HFC.out.len; have := HNL.out; have := HTL.out; simp only [List.flatten_cons, List.flatten_nil, List.length_append, List.length_singleton, List.length_nil]; omega)).mono ?_
              rintro e wz ⟨v, rfl, ho, hb⟩
              have HBZ := Aside0.mk (below_step (below_alloc HB_11.out _) hb)
              rw [show [PV, [0], cm, nx, tx].flatten = putL (l.take (k + 1)) from by rw [HPS.out, HPE.out]; simp] at ho
              have HOZ := Aside0.mk (show Ob wz w.heap.size v (putL (l.take (k + 1))) from Kd.R_lower ho (Nat.le_trans HB1.out.size (below_alloc HB_11.out _).size))
              clear ho hb
              (refine Shut.out hK _ _ (HALL.out _ HBZ.out) (fun hHeld => ?_); clear hK K; (try simp only [Act.put, List.getElem_toArray, List.getElem_cons_zero, List.getElem_cons_succ, List.setIfInBounds_toArray, List.set_cons_zero, List.set_cons_succ]))
              (refine wpAnyH_take (i := 13) (v := ?_) rfl (by kernel_rfl) (by kernel_rfl) (by kernel_rfl) (fun _ _ _ h => h) (Or.inl ⟨by rfl, ?_⟩) (by assumption) ?_; (case' refine_2 => (intro w hSw; go_simp; try with_reducible rfl)); (try simp only [Act.put, List.getElem_toArray, List.getElem_cons_zero, List.getElem_cons_succ, List.setIfInBounds_toArray, List.set_cons_zero, List.set_cons_succ]))
              refine wpAnyH_done (by kernel_rfl) ?_ _
              go_wp2_with (fail)
              go_roundw
              case rel => exact ⟨k + 1, by have := HK.out; omega, by go_num, ⟨HOZ.out⟩, below_step HB1.out HBZ.out⟩
              case measure => have := HK.out; simp [intOf]; omega
        · go_simp
          refine (HNU.out _ HBS.out).mono ?_
          rintro e zz12 ⟨vx, rfl, ho, hb⟩
          obtain ⟨AN, cN, rfl⟩ := Kd.R_slice ho
          have HX7_12 := Aside0.mk (show Ob zz12 w1.heap.size _ nx from Kd.R_lower ho HBS.out.size)
          have HB_12 := Aside0.mk (below_step HBS.out hb)
          have HO_12 := Aside0.mk (Kd.R_below HOS.out hb)
          clear ho hb
          (refine Shut.out hK _ _ (HALL.out _ HB_12.out) (fun hHeld => ?_); clear hK K; (try simp only [Act.put, List.getElem_toArray, List.getElem_cons_zero, List.getElem_cons_succ, List.setIfInBounds_toArray, List.set_cons_zero, List.set_cons_succ]))
          refine wpAnyH_ready (rs := [2, 10]) (by kernel_rfl) (by simp) (AllReadyH.cons rfl (fun K hK => ?_) (AllReadyH.cons rfl (fun K hK => ?_) AllReadyH.nil))
          · refine Kd.R_lit_step (Kd.int .u8) (w0 := w1) w1.heap.size 5 rfl (N := 18) rfl (xs := [0]) (inner := [.int .u8 0]) (ok := fun _ => True) (okp := fun _ => True) (by first | (go_simp; done) | (go_simp; rfl)) ⟨rfl, fun j p hj => ?_⟩ (fun _ hk => hk) trivial HB_12.out HB_12.out.size (by simp) ?_
            · match j, hj with
              | 0, hj => cases hj; rfl
            intro vl zz13 ho hb hg hat
            obtain ⟨AL, cL, rfl⟩ := Kd.R_slice ho
            have HX2_13 := Aside0.mk (show Ob zz13 w1.heap.size _ [0] from ho)
            have HB_13 := Aside0.mk hb
            have HO_13 := Aside0.mk (Kd.R_grown HO_12.out hg (fun k _ h => by cases h))
            have HX7_13 := Aside0.mk (Kd.R_grown HX7_12.out hg (fun k _ h => by cases h))
            clear ho hb hg hat
            (refine Shut.out hK _ _ (HALL.out _ HB_13.out) (fun hHeld => ?_); clear hK K; (try simp only [Act.put, List.getElem_toArray, List.getElem_cons_zero, List.getElem_cons_succ, List.setIfInBounds_toArray, List.set_cons_zero, List.set_cons_succ]))
            refine wpAnyH_ready (rs := [10]) (by kernel_rfl) (by simp) (AllReadyH.cons rfl (fun K hK => ?_) AllReadyH.nil)
            · go_simp
              refine (HTX.out _ HB_13.out).mono ?_
              rintro e zz14 ⟨vx, rfl, ho, hb⟩
              obtain ⟨AT, cT, rfl⟩ := Kd.R_slice ho
              have HX10_14 := Aside0.mk (show Ob zz14 w1.heap.size _ tx from Kd.R_lower ho HB_13.out.size)
              have HB_14 := Aside0.mk (below_step HB_13.out hb)
              have HO_14 := Aside0.mk (Kd.R_below HO_13.out hb)
              have HX7_14 := Aside0.mk (Kd.R_below HX7_13.out hb)
              have HX2_14 := Aside0.mk (Kd.R_below HX2_13.out hb)
              clear ho hb
              (refine Shut.out hK _ _ (HALL.out _ HB_14.out) (fun hHeld => ?_); clear hK K; (try simp only [Act.put, List.getElem_toArray, List.getElem_cons_zero, List.getElem_cons_succ, List.setIfInBounds_toArray, List.set_cons_zero, List.set_cons_succ]))
              obtain ⟨_, m2_, r2_⟩ := Kd.R_reads' HX2_14.out
              obtain ⟨_, m7_, r7_⟩ := Kd.R_reads' HX7_14.out
              obtain ⟨_, m10_, r10_⟩ := Kd.R_reads' HX10_14.out
              obtain ⟨_, m3_, r3_⟩ := Kd.R_reads' HO_14.out
              have HRW := rows5 r3_ m3_ r2_ m2_ (rb_at (HEB.out _ HB_14.out).fc HFC.out.eq (by rw [HFC.out.len]; decide)) (show cm.length ≤ 32 by rw [HFC.out.len]; exact Nat.le_refl _) r7_ m7_ r10_ m10_
              rw [HFC.out.len] at HRW
              have HRW := Aside0.mk HRW
              clear m2_ m7_ m10_ m3_ r2_ r7_ r10_ r3_
              refine wpAnyH_ready (rs := [11]) (by kernel_rfl) (by simp) (AllReadyH.cons rfl (fun K hK => ?_) AllReadyH.nil)
              refine wp_rows5 (.tmp 16) (.tmp 18) (.tmp 20) (.tmp 23) (.tmp 26) rfl AV AL (some ⟨g, 33, none⟩) AN AT PV.length 1 32 nx.length tx.length cV cL 32 cN cT rfl rfl rfl rfl rfl ?_
              (refine Shut.out hK _ _ (HALL.out _ (below_alloc HB_14.out _)) (fun hHeld => ?_); clear hK K; (try simp only [Act.put, List.getElem_toArray, List.getElem_cons_zero, List.getElem_cons_succ, List.setIfInBounds_toArray, List.set_cons_zero, List.set_cons_succ]))
              (refine wpAnyH_ready (rs := [12]) (by kernel_rfl) (by simp) (AllReadyH.cons rfl (fun K hK => ?_) AllReadyH.nil); go_simp)
              refine (all_c (some ⟨zz14.heap.size, 0, none⟩) 5 [PV, [0], cm, nx, tx] _ HRW.out (by simp) (by simp) (by have := HPL.out; have := HFC.out.len; have := HNL.out; have := HTL.out; simp only [List.flatten_cons, List.flatten_nil, List.length_append, List.length_singleton, List.length_nil]; omega)).mono ?_
              rintro e wz ⟨v, rfl, ho, hb⟩
              have HBZ := Aside0.mk (below_step (below_alloc HB_14.out _) hb)
              rw [show [PV, [0], cm, nx, tx].flatten = putL (l.take (k + 1)) from by rw [HPS.out, HPE.out]; simp] at ho
              have HOZ := Aside0.mk (show Ob wz w.heap.size v (putL (l.take (k + 1))) from Kd.R_lower ho (Nat.le_trans HB1.out.size (below_alloc HB_14.out _).size))
              clear ho hb
              (refine Shut.out hK _ _ (HALL.out _ HBZ.out) (fun hHeld => ?_); clear hK K; (try simp only [Act.put, List.getElem_toArray, List.getElem_cons_zero, List.getElem_cons_succ, List.setIfInBounds_toArray, List.set_cons_zero, List.set_cons_succ]))
              (refine wpAnyH_take (i := 13) (v := ?_) rfl (by kernel_rfl) (by kernel_rfl) (by kernel_rfl) (fun _ _ _ h => h) (Or.inl ⟨by rfl, ?_⟩) (by assumption) ?_; (case' refine_2 => (intro w hSw; go_simp; try with_reducible rfl)); (try simp only [Act.put, List.getElem_toArray, List.getElem_cons_zero, List.getElem_cons_succ, List.setIfInBounds_toArray, List.set_cons_zero, List.set_cons_succ]))
              refine wpAnyH_done (by kernel_rfl) ?_ _
              go_wp2_with (fail)
              go_roundw
              case rel => exact ⟨k + 1, by have := HK.out; omega, by go_num, ⟨HOZ.out⟩, below_step HB1.out HBZ.out⟩
              case measure => have := HK.out; simp [intOf]; omega
          · go_simp
            refine (HTX.out _ HB_12.out).mono ?_
            rintro e zz15 ⟨vx, rfl, ho, hb⟩
            obtain ⟨AT, cT, rfl⟩ := Kd.R_slice ho
            have HX10_15 := Aside0.mk (show Ob zz15 w1.heap.size _ tx from Kd.R_lower ho HB_12.out.size)
            have HB_15 := Aside0.mk (below_step HB_12.out hb)
            have HO_15 := Aside0.mk (Kd.R_below HO_12.out hb)
            have HX7_15 := Aside0.mk (Kd.R_below HX7_12.out hb)
            clear ho hb
            (refine Shut.out hK _ _ (HALL.out _ HB_15.out) (fun hHeld => ?_); clear hK K; (try simp only [Act.put, List.getElem_toArray, List.getElem_cons_zero, List.getElem_cons_succ, List.setIfInBounds_toArray, List.set_cons_zero, List.set_cons_succ]))
            refine wpAnyH_ready (rs := [2]) (by kernel_rfl) (by simp) (AllReadyH.cons rfl (fun K hK => ?_) AllReadyH.nil)
            · refine Kd.R_lit_step (Kd.int .u8) (w0 := w1) w1.heap.size 5 rfl (N := 18) rfl (xs := [0]) (inner := [.int .u8 0]) (ok := fun _ => True) (okp := fun _ => True) (by first | (go_simp; done) | (go_simp; rfl)) ⟨rfl, fun j p hj => ?_⟩ (fun _ hk => hk) trivial HB_15.out HB_15.out.size (by simp) ?_
              · match j, hj with
                | 0, hj => cases hj; rfl
              intro vl zz16 ho hb hg hat
              obtain ⟨AL, cL, rfl⟩ := Kd.R_slice ho
              have HX2_16 := Aside0.mk (show Ob zz16 w1.heap.size _ [0] from ho)
              have HB_16 := Aside0.mk hb
              have HO_16 := Aside0.mk (Kd.R_grown HO_15.out hg (fun k _ h => by cases h))
              have HX7_16 := Aside0.mk (Kd.R_grown HX7_15.out hg (fun k _ h => by cases h))
              have HX10_16 := Aside0.mk (Kd.R_grown HX10_15.out hg (fun k _ h => by cases h))
              clear ho hb hg hat
              (refine Shut.out hK _ _ (HALL.out _ HB_16.out) (fun hHeld => ?_); clear hK K; (try simp only [Act.put, List.getElem_toArray, List.getElem_cons_zero, List.getElem_cons_succ, List.setIfInBounds_toArray, List.set_cons_zero, List.set_cons_succ]))
              obtain ⟨_, m2_, r2_⟩ := Kd.R_reads' HX2_16.out
              obtain ⟨_, m7_, r7_⟩ := Kd.R_reads' HX7_16.out
              obtain ⟨_, m10_, r10_⟩ := Kd.R_reads' HX10_16.out
              obtain ⟨_, m3_, r3_⟩ := Kd.R_reads' HO_16.out
              have HRW := rows5 r3_ m3_ r2_ m2_ (rb_at (HEB.out _ HB_16.out).fc HFC.out.eq (by rw [HFC.out.len]; decide)) (show cm.length ≤ 32 by rw [HFC.out.len]; exact Nat.le_refl _) r7_ m7_ r10_ m10_
              rw [HFC.out.len] at HRW
              have HRW := Aside0.mk HRW
              clear m2_ m7_ m10_ m3_ r2_ r7_ r10_ r3_
              refine wpAnyH_ready (rs := [11]) (by kernel_rfl) (by simp) (AllReadyH.cons rfl (fun K hK => ?_) AllReadyH.nil)
              refine wp_rows5 (.tmp 16) (.tmp 18) (.tmp 20) (.tmp 23) (.tmp 26) rfl AV AL (some ⟨g, 33, none⟩) AN AT PV.length 1 32 nx.length tx.length cV cL 32 cN cT rfl rfl rfl rfl rfl ?_
              (refine Shut.out hK _ _ (HALL.out _ (below_alloc HB_16.out _)) (fun hHeld => ?_); clear hK K; (try simp only [Act.put, List.getElem_toArray, List.getElem_cons_zero, List.getElem_cons_succ, List.setIfInBounds_toArray, List.set_cons_zero, List.set_cons_succ]))
              (refine wpAnyH_ready (rs := [12]) (by kernel_rfl) (by simp) (AllReadyH.cons rfl (fun K hK => ?_) AllReadyH.nil); go_simp)
              refine (all_c (some ⟨zz16.heap.size, 0, none⟩) 5 [PV, [0], cm, nx, tx] _ HRW.out (by simp) (by simp) (by have := HPL.out; have := HFC.out.len; have := HNL.out; have := HTL.out; simp only [List.flatten_cons, List.flatten_nil, List.length_append, List.length_singleton, List.length_nil]; omega)).mono ?_
              rintro e wz ⟨v, rfl, ho, hb⟩
              have HBZ := Aside0.mk (below_step (below_alloc HB_16.out _) hb)
              rw [show [PV, [0], cm, nx, tx].flatten = putL (l.take (k + 1)) from by rw [HPS.out, HPE.out]; simp] at ho
              have HOZ := Aside0.mk (show Ob wz w.heap.size v (putL (l.take (k + 1))) from Kd.R_lower ho (Nat.le_trans HB1.out.size (below_alloc HB_16.out _).size))
              clear ho hb
              (refine Shut.out hK _ _ (HALL.out _ HBZ.out) (fun hHeld => ?_); clear hK K; (try simp only [Act.put, List.getElem_toArray, List.getElem_cons_zero, List.getElem_cons_succ, List.setIfInBounds_toArray, List.set_cons_zero, List.set_cons_succ]))
              (refine wpAnyH_take (i := 13) (v := ?_) rfl (by kernel_rfl) (by kernel_rfl) (by kernel_rfl) (fun _ _ _ h => h) (Or.inl ⟨by rfl, ?_⟩) (by assumption) ?_; (case' refine_2 => (intro w hSw; go_simp; try with_reducible rfl)); (try simp only [Act.put, List.getElem_toArray, List.getElem_cons_zero, List.getElem_cons_succ, List.setIfInBounds_toArray, List.set_cons_zero, List.set_cons_succ]))
              refine wpAnyH_done (by kernel_rfl) ?_ _
              go_wp2_with (fail)
              go_roundw
              case rel => exact ⟨k + 1, by have := HK.out; omega, by go_num, ⟨HOZ.out⟩, below_step HB1.out HBZ.out⟩
              case measure => have := HK.out; simp [intOf]; omega
    · have hkm : k = m := by omega
      subst hkm
      have htk : l.take k = l := List.take_of_length_le (by rw [HF.out.1]; exact Nat.le_refl _)
      rw [htk] at HO0
      have HPL := Aside0.mk (show (putL l).length ≤ 1100000 from Nat.le_trans (putL_le _ HF.out.2.2.1 HF.out.2.2.2) (by rw [HF.out.1]; have := HF.out.2.1; omega))
      have HPC := Aside0.mk (show putC l = putL l ++ headT l from rfl)
      obtain ⟨hd, hhd⟩ : ∃ t, headT l = t := ⟨_, rfl⟩
      rw [hhd] at HPC HD
      obtain ⟨PV, hPV⟩ : ∃ t, putL l = t := ⟨_, rfl⟩
      rw [hPV] at HO0 HPL HPC
      obtain ⟨AV, cV, rfl⟩ := Kd.R_slice HO0.out
      clear hlt hk htk hhd hPV
      go_wp2_with (fail)
      refine (HHD.out _ HB0.out).mono ?_
      rintro e w3 ⟨rfl, hb⟩
      have HB3 := Aside0.mk (below_step HB0.out hb)
      have HO3 := Aside0.mk (Kd.R_below HO0.out hb)
      clear hb
      have HY := Aside0.mk (show (w3.alloc (.cells Z32 23)).heap[w3.heap.size]? = some (.cells Z32 23 (0, 0)) from blk_new _ _)
      have HG4 := Aside0.mk (atC_blk (setRow_heap (w3.alloc (.cells Z32 23)) w3.heap.size Z32 D.toArray _ _ HY.out))
      have HB4 := Aside0.mk (show Below w.heap.size w ((w3.alloc (.cells Z32 23)).setRow w3.heap.size D.toArray) from below_setRow (below_alloc HB3.out _) HB3.out.size _)
      have HO4 := Aside0.mk (Kd.R_below HO3.out (show Below w3.heap.size w3 ((w3.alloc (.cells Z32 23)).setRow w3.heap.size D.toArray) from below_setRow (below_alloc (Below.refl _ _) _) (Nat.le_refl _) _))
      go_upto_region 11 with ((with_reducible refine gate_store (t := 23) (p := 7) (v := .tmp 31) rfl ?_); refine wpList_store_row rfl 23 (.tmp 7) (.tmp 31) rfl w3.heap.size D.toArray rfl rfl 23 Z32 HY.out HD.out.blkA HD.out.zsA HD.out.oneA ?_)
      obtain ⟨w4, hw4⟩ : ∃ V, (w3.alloc (.cells Z32 23)).setRow w3.heap.size D.toArray = V := ⟨_, rfl⟩
      rw [hw4] at HG4 HB4 HO4
      rw [show (w3.alloc (.cells #[.int .u8 0, .int .u8 0, .int .u8 0, .int .u8 0, .int .u8 0, .int .u8 0, .int .u8 0, .int .u8 0, .int .u8 0, .int .u8 0, .int .u8 0, .int .u8 0, .int .u8 0, .int .u8 0, .int .u8 0, .int .u8 0, .int .u8 0, .int .u8 0, .int .u8 0, .int .u8 0, .int .u8 0, .int .u8 0, .int .u8 0, .int .u8 0, .int .u8 0, .int .u8 0, .int .u8 0, .int .u8 0, .int .u8 0, .int .u8 0, .int .u8 0, .int .u8 0] 23)).setRow w3.heap.size D.toArray = w4 from hw4]
      obtain ⟨g5, hg5⟩ : ∃ g, w3.heap.size = g := ⟨_, rfl⟩
      rw [hg5] at HG4 ⊢
      clear hw4 hg5 HY HO3 HB3 HB0 HO0
      go_wp2_with ((with_reducible refine gate_builtin (b := .append) (xs := #[.tmp 32, .tmp 33]) rfl ?_); at_builtin; refine Kd.R_append_rows (Kd.int .u8) (w0 := w) w.heap.size rfl (.tmp 32) (.tmp 33) 25 5 (.int .u8 0) 1 rfl Try.underlying25 info_u8 rfl (by decide) (by omega) _ PV hd _ _ _ (fun _ => True) (fun _ => False) rfl rfl HO4.out (c32_at HG4.out HD.out.eq HD.out.len) (fun _ _ h => h) (fun _ h => h.elim) (fun _ _ => trivial) HB4.out HB4.out.size (by have := HPL.out; have := HD.out.len; simp; omega) ?_; intro v1 w5 ho hb hg hat; rw [← HPC.out] at ho; have HB5 := Aside0.mk hb; have HO5 := Aside0.mk ho; clear ho hb hg hat)
      go_ret
      exact ⟨_, rfl, HO5.out, HB5.out⟩
end Go.Proofs.Ytfpkgdenohcglaa.Chn
/- The document's Put walked (printed by gen_chnrput.py). -/
namespace Go.Proofs.Ytfpkgdenohcglaa.Chn
set_option linter.unusedVariables false
set_option linter.unusedSimpArgs false
open Go.RowKit Go.Proofs.Ytfpkgdenohcglaa.Lo Go.Proofs.Ytfpkgdenohcglaa.RdPlain Go.Proofs.Ytfpkgdenohcglaa.Base Go.Proofs.Ytfpkgdenohcglaa.TlvPlain Go.Proofs.Ytfpkgdenohcglaa.ShaPlain Go.Proofs.Ytfpkgdenohcglaa.Sha Go.Proofs.Ytfpkgdenohcglaa.Com Go.Proofs.Ytfpkgdenohcglaa.Aid Go.Proofs.YtfpkgdenohcglaaW.PrintWords Go.Proofs.YtfpkgdenohcglaaW.PrintLast Go.Proofs.YtfpkgdenohcglaaW.PrintMore
open Tlv (RdO takeO_ okO numO_ textO_ leftO_ newO)
attribute [local irreducible] shaB
set_option maxHeartbeats 8000000 in
set_option maxRecDepth 100000 in
theorem rput_c (l : List Ent) (m : Nat) (hl : l.length = m) (hm : m ≤ 1000) (hu : Lu' l) (hs : ∀ x ∈ l, (payE x).length ≤ 1000) (A : Option Addr) (c : Nat) (w : World) (hr : Re w A l) :
    Calls Try.prog 42 #[.slice A m c] w (Makes w (putC l)) := by
  unfold Makes
  have HF := Aside0.mk (And.intro hl (And.intro hm (And.intro hu hs)))
  have HRE := Aside0.mk hr
  obtain ⟨D, hD⟩ := sumC (headT l) (headT_len _)
  have HHD := Aside0.mk (fun V (hV : Below w.heap.size w V) => rhead_c l m hl (by omega) hu A c V (Kd.C_below hr hV))
  unfold Ret at HHD
  rw [hD.v] at HHD
  have HD := Aside0.mk hD
  have q9 : (m : Int) ≤ 1000 := by omega
  have HB0 := Aside0.mk (Below.refl w.heap.size w)
  clear hl hm hu hs hr hD
  go_enter Try.func42, Try.ntmps42
  go_wp2_with (fail)
  go_loopw [3, 4] (fun v i wx => ∃ k : Nat, k ≤ m ∧ i = .int .i64 k ∧ Aside0 (Ob wx w.heap.size v (putL (l.take k))) ∧ Below w.heap.size w wx) (fun _ i _ => m - (intOf i).toNat)
  case atStart => exact ⟨0, Nat.zero_le _, rfl, ⟨Kd.R_nil _ _ _ _ _⟩, HB0.out⟩
  case round =>
    clear HB0
    obtain ⟨k, hk, rfl, HO0, hb⟩ := hrel
    have HB0 := Aside0.mk hb
    clear hb
    obtain ⟨W, hwy⟩ : ∃ wy, wy = wr := ⟨_, rfl⟩
    subst hwy
    by_cases hlt : k < m
    · have hkl : k < l.length := by rw [HF.out.1]; exact hlt
      obtain ⟨ad, P, C, B, cb, rfl, hat, hC⟩ := re_at HRE.out k hkl
      have hE := HF.out.2.2.1 _ (List.getElem_mem hkl)
      have hpl := HF.out.2.2.2 _ (List.getElem_mem hkl)
      have HPS := Aside0.mk (putL_snoc l k hkl)
      have HPL := Aside0.mk (show (putL (l.take k)).length ≤ 1100000 from Nat.le_trans (putL_le _ (HF.out.2.2.1.take k) (fun y hy => HF.out.2.2.2 y (List.mem_of_mem_take hy))) (by rw [List.length_take]; have := HF.out.2.1; omega))
      obtain ⟨PV, hPV⟩ : ∃ t, putL (l.take k) = t := ⟨_, rfl⟩
      rw [hPV] at HPS HPL HO0
      obtain ⟨AV, cV, rfl⟩ := Kd.R_slice HO0.out
      obtain ⟨x, hx⟩ : ∃ x, l[k] = x := ⟨_, rfl⟩
      rw [hx] at hat hC hE hpl HPS
      have HEF := Aside0.mk (entF hC.fp.lenC hC.fc.lenC hat)
      have HNU := Aside0.mk (fun V (hV : Below w.heap.size w V) => rnum_c (saltE x) V hE.s0 hE.s1)
      have HTX := Aside0.mk (fun V (hV : Below w.heap.size w V) => rtext_c B cb (payE x) V (Kd.C_below hC.r hV) hC.hc (by omega))
      have HNL := Aside0.mk (numB_len hE.s1)
      have HTL := Aside0.mk (Nat.le_trans (textB_len (l := payE x) (by omega)) (Nat.add_le_add_right hpl 9))
      unfold Makes at HNU HTX
      have HCM := Aside0.mk (fun V (hV : Below w.heap.size w V) => show Kd.C (Kd.int .u8) V (some ⟨(ad.add (k * 68)).block, (ad.add (k * 68)).off + 33, none⟩) 32 (comE x) from c32_at (HEF.out.below hV).fc hC.fc.eq hC.fc.len)
      have HALL := Aside0.mk (fun V (hV : Below w.heap.size w V) => show V.cell? ⟨(ad.add (k * 68)).block, (ad.add (k * 68)).off + 65, none⟩ = some (.int .u64 (saltE x)) ∧ V.cell? ⟨(ad.add (k * 68)).block, (ad.add (k * 68)).off + 66, none⟩ = some (.slice B (payE x).length cb) from And.intro (HEF.out.below hV).sl (HEF.out.below hV).py)
      have hred := show W.cell? ⟨(ad.add (k * 68)).block, (ad.add (k * 68)).off + 67, none⟩ = some (.bool (redE x)) from (HEF.out.below HB0.out).r
      have HPE := Aside0.mk (show putE x = flagE x :: (comE x ++ (numB (saltE x) ++ textB (payE x))) from rfl)
      have HFL := Aside0.mk (show flagE x = if redE x then 1 else 0 from rfl)
      have HCL := Aside0.mk (show (comE x).length = 32 from hC.fc.len)
      obtain ⟨rd, hrd⟩ : ∃ t, redE x = t := ⟨_, rfl⟩
      obtain ⟨sl, hsl⟩ : ∃ t, saltE x = t := ⟨_, rfl⟩
      obtain ⟨pl, hpl2⟩ : ∃ t, (payE x).length = t := ⟨_, rfl⟩
      obtain ⟨cm, hcm⟩ : ∃ t, comE x = t := ⟨_, rfl⟩
      obtain ⟨tx, htx⟩ : ∃ t, textB (payE x) = t := ⟨_, rfl⟩
      rw [hrd] at hred HFL
      rw [htx] at HPE HTX HTL
      rw [hcm] at HPE HCM HCL
      rw [hsl] at HALL HNU HPE HNL
      rw [hpl2] at HALL HTX
      obtain ⟨nx, hnx⟩ : ∃ t, numB sl = t := ⟨_, rfl⟩
      rw [hnx] at HPE HNU HNL
      have HK := Aside0.mk hlt
      have p0 : (0 : Int) ≤ (k : Int) := by omega
      have p1 : (k : Int) < (m : Int) := by omega
      have d1 : decide ((k : Int) < (m : Int)) = true := decide_eq_true (by omega)
      have d2 : decide (k < m) = true := decide_eq_true hlt
      clear hE hpl hC hat hx hlt hk hkl hPV hrd hsl hpl2 hcm hnx htx
      cases rd with
      | true =>
        rw [HFL.out, if_pos rfl] at HPE
        clear HFL
        go_upto_region 9 with (first
          | ((with_reducible refine gate_dst (N := 18) rfl ?_); (try (refine gate_guard (by rfl) ?_; dsimp only)); refine lit_bytes (N := 18) ?hg ?hd [1] [.int .u8 (1)] rfl ?hr (by simp) ?_; (case hd => rfl); (case hg => rfl); (case hr => first | (go_simp; done) | (go_simp; rfl)); intro v w1 ho hb; have HO1 := Aside0.mk (Kd.R_below HO0.out hb); obtain ⟨A1, c1, rfl, hc1_, hr1_⟩ := Ob.reads ho; have HL1 := Aside0.mk hr1_; clear hc1_ hr1_; have HB1 := Aside0.mk (below_step HB0.out hb); clear ho hb)
          | ((with_reducible refine gate_builtin (b := .append) (xs := #[.tmp 17, .tmp 18]) rfl ?_); at_builtin; refine Kd.R_append_rows (Kd.int .u8) (w0 := w) w.heap.size rfl (.tmp 17) (.tmp 18) 25 5 (.int .u8 0) 1 rfl Try.underlying25 info_u8 rfl (by decide) (by omega) _ PV [1] _ _ _ (fun _ => True) (fun _ => False) rfl rfl HO1.out HL1.out (fun _ _ h => h) (fun _ h => h.elim) (fun _ _ => trivial) HB1.out HB1.out.size (by have := HPL.out; simp; omega) ?_; intro vq wq ho hb hg hat; have HO2 := Aside0.mk ho; have HB2 := Aside0.mk hb; clear ho hb hg hat)
          | ((with_reducible refine gate_builtin (b := .append) (xs := #[.tmp 23, .tmp 28]) rfl ?_); at_builtin; refine Kd.R_append_rows (Kd.int .u8) (w0 := w) w.heap.size rfl (.tmp 23) (.tmp 28) 25 5 (.int .u8 0) 1 rfl Try.underlying25 info_u8 rfl (by decide) (by omega) _ (PV ++ [1]) cm _ _ _ (fun _ => True) (fun _ => False) rfl rfl HO2.out (HCM.out _ HB2.out) (fun _ _ h => h) (fun _ h => h.elim) (fun _ _ => trivial) HB2.out HB2.out.size (by have := HPL.out; simp; omega) ?_; intro vq wq ho hb hg hat; have HO3 := Aside0.mk ho; have HB3 := Aside0.mk hb; clear ho hb hg hat))
        clear hred
        have HALL2 := Aside0.mk (HALL.out _ (below_drew1 HB3.out))
        refine wp_region_held_drew (S := fun V => V.cell? ⟨(ad.add (k * 68)).block, (ad.add (k * 68)).off + 65, none⟩ = some (.int .u64 sl) ∧ V.cell? ⟨(ad.add (k * 68)).block, (ad.add (k * 68)).off + 66, none⟩ = some (.slice B pl cb)) (by kernel_rfl) HALL2.out (fun hHeld => ?_)
        (refine wpAnyH_take (i := 0) (v := ?_) rfl (by kernel_rfl) (by kernel_rfl) (by kernel_rfl) (fun _ _ _ h => h) (Or.inl ⟨by rfl, ?_⟩) (by assumption) ?_; (case' refine_2 => (intro w hSw; go_simp; try with_reducible rfl)); (try simp only [Act.put, List.getElem_toArray, List.getElem_cons_zero, List.getElem_cons_succ, List.setIfInBounds_toArray, List.set_cons_zero, List.set_cons_succ]))
        (refine wpAnyH_take (i := 1) (v := ?_) rfl (by kernel_rfl) (by kernel_rfl) (by kernel_rfl) (fun _ _ _ h => h) (Or.inl ⟨by rfl, ?_⟩) (by assumption) ?_; (case' refine_2 => (intro w hSw; go_simp; try with_reducible rfl)); (try simp only [Act.put, List.getElem_toArray, List.getElem_cons_zero, List.getElem_cons_succ, List.setIfInBounds_toArray, List.set_cons_zero, List.set_cons_succ]))
        (refine wpAnyH_take (i := 2) (v := ?_) rfl (by kernel_rfl) (by kernel_rfl) (by kernel_rfl) (fun _ _ _ h => h) (Or.inl ⟨by rfl, ?_⟩) (by assumption) ?_; (case' refine_2 => (intro w hSw; go_simp; try with_reducible rfl)); (try simp only [Act.put, List.getElem_toArray, List.getElem_cons_zero, List.getElem_cons_succ, List.setIfInBounds_toArray, List.set_cons_zero, List.set_cons_succ]))
        (refine wpAnyH_take (i := 3) (v := ?_) rfl (by kernel_rfl) (by kernel_rfl) (by kernel_rfl) (fun _ _ _ h => h) (Or.inl ⟨by rfl, ?_⟩) (by assumption) ?_; (case' refine_2 => (intro w hSw; go_simp; try with_reducible rfl)); (try simp only [Act.put, List.getElem_toArray, List.getElem_cons_zero, List.getElem_cons_succ, List.setIfInBounds_toArray, List.set_cons_zero, List.set_cons_succ]))
        (refine wpAnyH_take (i := 4) (v := ?_) rfl (by kernel_rfl) (by kernel_rfl) (by kernel_rfl) (fun _ _ _ h => h) (Or.inl ⟨by rfl, ?_⟩) (by assumption) ?_; (case' refine_2 => (intro w hSw; go_simp; try with_reducible rfl)); (try simp only [Act.put, List.getElem_toArray, List.getElem_cons_zero, List.getElem_cons_succ, List.setIfInBounds_toArray, List.set_cons_zero, List.set_cons_succ]))
        (refine wpAnyH_take (i := 5) (v := ?_) rfl (by kernel_rfl) (by kernel_rfl) (by kernel_rfl) (fun _ _ _ h => h) (Or.inl ⟨by rfl, ?_⟩) (by assumption) ?_; (case' refine_2 => (intro w hSw; go_simp; try with_reducible rfl)); (try simp only [Act.put, List.getElem_toArray, List.getElem_cons_zero, List.getElem_cons_succ, List.setIfInBounds_toArray, List.set_cons_zero, List.set_cons_succ]))
        (refine wpAnyH_take (i := 8) (v := ?_) rfl (by kernel_rfl) (by kernel_rfl) (by kernel_rfl) (fun _ _ _ h => h) (Or.inl ⟨by rfl, ?_⟩) (by assumption) ?_; (case' refine_2 => (intro w hSw; go_simp; try with_reducible rfl)); (try simp only [Act.put, List.getElem_toArray, List.getElem_cons_zero, List.getElem_cons_succ, List.setIfInBounds_toArray, List.set_cons_zero, List.set_cons_succ]))
        (refine wpAnyH_take (i := 9) (v := ?_) rfl (by kernel_rfl) (by kernel_rfl) (by kernel_rfl) (fun _ _ _ h => h) (Or.inl ⟨by rfl, ?_⟩) (by assumption) ?_; (case' refine_2 => (intro w hSw; go_simp; try with_reducible rfl)); (try simp only [Act.put, List.getElem_toArray, List.getElem_cons_zero, List.getElem_cons_succ, List.setIfInBounds_toArray, List.set_cons_zero, List.set_cons_succ]))
        (refine wpAnyH_take (i := 10) (v := ?_) rfl (by kernel_rfl) (by kernel_rfl) (by kernel_rfl) (fun _ _ _ h => h) (Or.inl ⟨by rfl, ?_⟩) (by assumption) ?_; (case' refine_2 => (intro w hSw; go_simp; try with_reducible rfl)); (try simp only [Act.put, List.getElem_toArray, List.getElem_cons_zero, List.getElem_cons_succ, List.setIfInBounds_toArray, List.set_cons_zero, List.set_cons_succ]))
        (refine wpAnyH_take (i := 11) (v := ?_) rfl (by kernel_rfl) (by kernel_rfl) (by kernel_rfl) (fun _ _ _ h => h) (Or.inl ⟨by rfl, ?_⟩) (by assumption) ?_; (case' refine_2 => (intro w hSw; go_simp; try with_reducible rfl)); (try simp only [Act.put, List.getElem_toArray, List.getElem_cons_zero, List.getElem_cons_succ, List.setIfInBounds_toArray, List.set_cons_zero, List.set_cons_succ]))
        (refine wpAnyH_take (i := 12) (v := ?_) rfl (by kernel_rfl) (by kernel_rfl) (by kernel_rfl) (fun _ _ _ h => h) (Or.inl ⟨by rfl, ?_⟩) (by assumption) ?_; (case' refine_2 => (intro w hSw; go_simp; try with_reducible rfl)); (try simp only [Act.put, List.getElem_toArray, List.getElem_cons_zero, List.getElem_cons_succ, List.setIfInBounds_toArray, List.set_cons_zero, List.set_cons_succ]))
        (refine wpAnyH_ready (rs := [6]) (by kernel_rfl) (by simp) (AllReadyH.cons rfl (fun K hK => ?_) AllReadyH.nil); go_simp)
        refine (HNU.out _ (below_drew1 HB3.out)).mono ?_
        rintro e w4 ⟨vx, rfl, ho, hb⟩
        obtain ⟨AN, cN, rfl⟩ := Kd.R_slice ho
        have HX4 := Aside0.mk (Kd.R_lower ho (below_drew1 HB3.out).size)
        have HO4 := Aside0.mk (Kd.R_below HO3.out (below_drew_of hb))
        have HB4 := Aside0.mk (below_step HB3.out (below_drew_of hb))
        clear ho hb
        (refine Shut.out hK _ _ (HALL.out _ HB4.out) (fun hHeld => ?_); clear hK K; (try simp only [Act.put, List.getElem_toArray, List.getElem_cons_zero, List.getElem_cons_succ, List.setIfInBounds_toArray, List.set_cons_zero, List.set_cons_succ]))
        refine wpAnyH_ready (rs := [7]) (by kernel_rfl) (by simp) (AllReadyH.cons rfl (fun K hK => ?_) AllReadyH.nil)
        refine Kd.R_append_rows_step (Kd.int .u8) (w0 := w) w.heap.size rfl (.tmp 30) (.tmp 36) 25 5 (.int .u8 0) 1 rfl Try.underlying25 info_u8 rfl (by decide) (by omega) _ (PV ++ [1] ++ cm) nx _ _ _ (fun _ => True) (fun _ => False) rfl rfl HO4.out (Kd.R_reads' HX4.out).2.2 (fun _ _ h => h) (fun _ h => h.elim) (fun _ _ => trivial) HB4.out HB4.out.size (by have := HPL.out; have := HCL.out; have := HNL.out; simp; omega) ?_
        intro v5 w5 ho hb hg hat
        have HO5 := Aside0.mk ho
        have HB5 := Aside0.mk hb
        clear ho hb hg hat
        (refine Shut.out hK _ _ (HALL.out _ HB5.out) (fun hHeld => ?_); clear hK K; (try simp only [Act.put, List.getElem_toArray, List.getElem_cons_zero, List.getElem_cons_succ, List.setIfInBounds_toArray, List.set_cons_zero, List.set_cons_succ]))
        (refine wpAnyH_ready (rs := [13]) (by kernel_rfl) (by simp) (AllReadyH.cons rfl (fun K hK => ?_) AllReadyH.nil); go_simp)
        refine (HTX.out _ HB5.out).mono ?_
        rintro e w6 ⟨vx, rfl, ho, hb⟩
        obtain ⟨AT, cT, rfl⟩ := Kd.R_slice ho
        have HX6 := Aside0.mk (Kd.R_lower ho HB5.out.size)
        have HO6 := Aside0.mk (Kd.R_below HO5.out hb)
        have HB6 := Aside0.mk (below_step HB5.out hb)
        clear ho hb
        (refine Shut.out hK _ _ (HALL.out _ HB6.out) (fun hHeld => ?_); clear hK K; (try simp only [Act.put, List.getElem_toArray, List.getElem_cons_zero, List.getElem_cons_succ, List.setIfInBounds_toArray, List.set_cons_zero, List.set_cons_succ]))
        refine wpAnyH_ready (rs := [14]) (by kernel_rfl) (by simp) (AllReadyH.cons rfl (fun K hK => ?_) AllReadyH.nil)
        refine Kd.R_append_rows_step (Kd.int .u8) (w0 := w) w.heap.size rfl (.tmp 37) (.tmp 43) 25 5 (.int .u8 0) 1 rfl Try.underlying25 info_u8 rfl (by decide) (by omega) v5 (PV ++ [1] ++ cm ++ nx) tx _ _ _ (fun _ => True) (fun _ => False) rfl rfl HO6.out (Kd.R_reads' HX6.out).2.2 (fun _ _ h => h) (fun _ h => h.elim) (fun _ _ => trivial) HB6.out HB6.out.size (by have := HPL.out; have := HCL.out; have := HNL.out; have := HTL.out; simp; omega) ?_
        intro v7 w7 ho hb hg hat
        rw [show PV ++ [1] ++ cm ++ nx ++ tx = putL (l.take (k + 1)) from by rw [HPS.out, HPE.out]; simp] at ho
        have HO7 := Aside0.mk ho
        have HB7 := Aside0.mk hb
        clear ho hb hg hat
        (refine Shut.out hK _ _ (HALL.out _ HB7.out) (fun hHeld => ?_); clear hK K; (try simp only [Act.put, List.getElem_toArray, List.getElem_cons_zero, List.getElem_cons_succ, List.setIfInBounds_toArray, List.set_cons_zero, List.set_cons_succ]))
        (refine wpAnyH_take (i := 15) (v := ?_) rfl (by kernel_rfl) (by kernel_rfl) (by kernel_rfl) (fun _ _ _ h => h) (Or.inl ⟨by rfl, ?_⟩) (by assumption) ?_; (case' refine_2 => (intro w hSw; go_simp; try with_reducible rfl)); (try simp only [Act.put, List.getElem_toArray, List.getElem_cons_zero, List.getElem_cons_succ, List.setIfInBounds_toArray, List.set_cons_zero, List.set_cons_succ]))
        refine wpAnyH_done (by kernel_rfl) ?_ _
        go_wp2_with (fail)
        go_roundw
        case rel => exact ⟨k + 1, by have := HK.out; omega, by go_num, ⟨HO7.out⟩, HB7.out⟩
        case measure => have := HK.out; simp [intOf]; omega
      | false =>
        rw [HFL.out, if_neg Bool.false_ne_true] at HPE
        clear HFL
        go_upto_region 9 with (first
          | ((with_reducible refine gate_dst (N := 21) rfl ?_); (try (refine gate_guard (by rfl) ?_; dsimp only)); refine lit_bytes (N := 21) ?hg ?hd [0] [.int .u8 (0)] rfl ?hr (by simp) ?_; (case hd => rfl); (case hg => rfl); (case hr => first | (go_simp; done) | (go_simp; rfl)); intro v w1 ho hb; have HO1 := Aside0.mk (Kd.R_below HO0.out hb); obtain ⟨A1, c1, rfl, hc1_, hr1_⟩ := Ob.reads ho; have HL1 := Aside0.mk hr1_; clear hc1_ hr1_; have HB1 := Aside0.mk (below_step HB0.out hb); clear ho hb)
          | ((with_reducible refine gate_builtin (b := .append) (xs := #[.tmp 20, .tmp 21]) rfl ?_); at_builtin; refine Kd.R_append_rows (Kd.int .u8) (w0 := w) w.heap.size rfl (.tmp 20) (.tmp 21) 25 5 (.int .u8 0) 1 rfl Try.underlying25 info_u8 rfl (by decide) (by omega) _ PV [0] _ _ _ (fun _ => True) (fun _ => False) rfl rfl HO1.out HL1.out (fun _ _ h => h) (fun _ h => h.elim) (fun _ _ => trivial) HB1.out HB1.out.size (by have := HPL.out; simp; omega) ?_; intro vq wq ho hb hg hat; have HO2 := Aside0.mk ho; have HB2 := Aside0.mk hb; clear ho hb hg hat)
          | ((with_reducible refine gate_builtin (b := .append) (xs := #[.tmp 23, .tmp 28]) rfl ?_); at_builtin; refine Kd.R_append_rows (Kd.int .u8) (w0 := w) w.heap.size rfl (.tmp 23) (.tmp 28) 25 5 (.int .u8 0) 1 rfl Try.underlying25 info_u8 rfl (by decide) (by omega) _ (PV ++ [0]) cm _ _ _ (fun _ => True) (fun _ => False) rfl rfl HO2.out (HCM.out _ HB2.out) (fun _ _ h => h) (fun _ h => h.elim) (fun _ _ => trivial) HB2.out HB2.out.size (by have := HPL.out; simp; omega) ?_; intro vq wq ho hb hg hat; have HO3 := Aside0.mk ho; have HB3 := Aside0.mk hb; clear ho hb hg hat))
        clear hred
        have HALL2 := Aside0.mk (HALL.out _ (below_drew1 HB3.out))
        refine wp_region_held_drew (S := fun V => V.cell? ⟨(ad.add (k * 68)).block, (ad.add (k * 68)).off + 65, none⟩ = some (.int .u64 sl) ∧ V.cell? ⟨(ad.add (k * 68)).block, (ad.add (k * 68)).off + 66, none⟩ = some (.slice B pl cb)) (by kernel_rfl) HALL2.out (fun hHeld => ?_)
        (refine wpAnyH_take (i := 0) (v := ?_) rfl (by kernel_rfl) (by kernel_rfl) (by kernel_rfl) (fun _ _ _ h => h) (Or.inl ⟨by rfl, ?_⟩) (by assumption) ?_; (case' refine_2 => (intro w hSw; go_simp; try with_reducible rfl)); (try simp only [Act.put, List.getElem_toArray, List.getElem_cons_zero, List.getElem_cons_succ, List.setIfInBounds_toArray, List.set_cons_zero, List.set_cons_succ]))
        (refine wpAnyH_take (i := 1) (v := ?_) rfl (by kernel_rfl) (by kernel_rfl) (by kernel_rfl) (fun _ _ _ h => h) (Or.inl ⟨by rfl, ?_⟩) (by assumption) ?_; (case' refine_2 => (intro w hSw; go_simp; try with_reducible rfl)); (try simp only [Act.put, List.getElem_toArray, List.getElem_cons_zero, List.getElem_cons_succ, List.setIfInBounds_toArray, List.set_cons_zero, List.set_cons_succ]))
        (refine wpAnyH_take (i := 2) (v := ?_) rfl (by kernel_rfl) (by kernel_rfl) (by kernel_rfl) (fun _ _ _ h => h) (Or.inl ⟨by rfl, ?_⟩) (by assumption) ?_; (case' refine_2 => (intro w hSw; go_simp; try with_reducible rfl)); (try simp only [Act.put, List.getElem_toArray, List.getElem_cons_zero, List.getElem_cons_succ, List.setIfInBounds_toArray, List.set_cons_zero, List.set_cons_succ]))
        (refine wpAnyH_take (i := 3) (v := ?_) rfl (by kernel_rfl) (by kernel_rfl) (by kernel_rfl) (fun _ _ _ h => h) (Or.inl ⟨by rfl, ?_⟩) (by assumption) ?_; (case' refine_2 => (intro w hSw; go_simp; try with_reducible rfl)); (try simp only [Act.put, List.getElem_toArray, List.getElem_cons_zero, List.getElem_cons_succ, List.setIfInBounds_toArray, List.set_cons_zero, List.set_cons_succ]))
        (refine wpAnyH_take (i := 4) (v := ?_) rfl (by kernel_rfl) (by kernel_rfl) (by kernel_rfl) (fun _ _ _ h => h) (Or.inl ⟨by rfl, ?_⟩) (by assumption) ?_; (case' refine_2 => (intro w hSw; go_simp; try with_reducible rfl)); (try simp only [Act.put, List.getElem_toArray, List.getElem_cons_zero, List.getElem_cons_succ, List.setIfInBounds_toArray, List.set_cons_zero, List.set_cons_succ]))
        (refine wpAnyH_take (i := 5) (v := ?_) rfl (by kernel_rfl) (by kernel_rfl) (by kernel_rfl) (fun _ _ _ h => h) (Or.inl ⟨by rfl, ?_⟩) (by assumption) ?_; (case' refine_2 => (intro w hSw; go_simp; try with_reducible rfl)); (try simp only [Act.put, List.getElem_toArray, List.getElem_cons_zero, List.getElem_cons_succ, List.setIfInBounds_toArray, List.set_cons_zero, List.set_cons_succ]))
        (refine wpAnyH_take (i := 8) (v := ?_) rfl (by kernel_rfl) (by kernel_rfl) (by kernel_rfl) (fun _ _ _ h => h) (Or.inl ⟨by rfl, ?_⟩) (by assumption) ?_; (case' refine_2 => (intro w hSw; go_simp; try with_reducible rfl)); (try simp only [Act.put, List.getElem_toArray, List.getElem_cons_zero, List.getElem_cons_succ, List.setIfInBounds_toArray, List.set_cons_zero, List.set_cons_succ]))
        (refine wpAnyH_take (i := 9) (v := ?_) rfl (by kernel_rfl) (by kernel_rfl) (by kernel_rfl) (fun _ _ _ h => h) (Or.inl ⟨by rfl, ?_⟩) (by assumption) ?_; (case' refine_2 => (intro w hSw; go_simp; try with_reducible rfl)); (try simp only [Act.put, List.getElem_toArray, List.getElem_cons_zero, List.getElem_cons_succ, List.setIfInBounds_toArray, List.set_cons_zero, List.set_cons_succ]))
        (refine wpAnyH_take (i := 10) (v := ?_) rfl (by kernel_rfl) (by kernel_rfl) (by kernel_rfl) (fun _ _ _ h => h) (Or.inl ⟨by rfl, ?_⟩) (by assumption) ?_; (case' refine_2 => (intro w hSw; go_simp; try with_reducible rfl)); (try simp only [Act.put, List.getElem_toArray, List.getElem_cons_zero, List.getElem_cons_succ, List.setIfInBounds_toArray, List.set_cons_zero, List.set_cons_succ]))
        (refine wpAnyH_take (i := 11) (v := ?_) rfl (by kernel_rfl) (by kernel_rfl) (by kernel_rfl) (fun _ _ _ h => h) (Or.inl ⟨by rfl, ?_⟩) (by assumption) ?_; (case' refine_2 => (intro w hSw; go_simp; try with_reducible rfl)); (try simp only [Act.put, List.getElem_toArray, List.getElem_cons_zero, List.getElem_cons_succ, List.setIfInBounds_toArray, List.set_cons_zero, List.set_cons_succ]))
        (refine wpAnyH_take (i := 12) (v := ?_) rfl (by kernel_rfl) (by kernel_rfl) (by kernel_rfl) (fun _ _ _ h => h) (Or.inl ⟨by rfl, ?_⟩) (by assumption) ?_; (case' refine_2 => (intro w hSw; go_simp; try with_reducible rfl)); (try simp only [Act.put, List.getElem_toArray, List.getElem_cons_zero, List.getElem_cons_succ, List.setIfInBounds_toArray, List.set_cons_zero, List.set_cons_succ]))
        (refine wpAnyH_ready (rs := [6]) (by kernel_rfl) (by simp) (AllReadyH.cons rfl (fun K hK => ?_) AllReadyH.nil); go_simp)
        refine (HNU.out _ (below_drew1 HB3.out)).mono ?_
        rintro e w4 ⟨vx, rfl, ho, hb⟩
        obtain ⟨AN, cN, rfl⟩ := Kd.R_slice ho
        have HX4 := Aside0.mk (Kd.R_lower ho (below_drew1 HB3.out).size)
        have HO4 := Aside0.mk (Kd.R_below HO3.out (below_drew_of hb))
        have HB4 := Aside0.mk (below_step HB3.out (below_drew_of hb))
        clear ho hb
        (refine Shut.out hK _ _ (HALL.out _ HB4.out) (fun hHeld => ?_); clear hK K; (try simp only [Act.put, List.getElem_toArray, List.getElem_cons_zero, List.getElem_cons_succ, List.setIfInBounds_toArray, List.set_cons_zero, List.set_cons_succ]))
        refine wpAnyH_ready (rs := [7]) (by kernel_rfl) (by simp) (AllReadyH.cons rfl (fun K hK => ?_) AllReadyH.nil)
        refine Kd.R_append_rows_step (Kd.int .u8) (w0 := w) w.heap.size rfl (.tmp 30) (.tmp 36) 25 5 (.int .u8 0) 1 rfl Try.underlying25 info_u8 rfl (by decide) (by omega) _ (PV ++ [0] ++ cm) nx _ _ _ (fun _ => True) (fun _ => False) rfl rfl HO4.out (Kd.R_reads' HX4.out).2.2 (fun _ _ h => h) (fun _ h => h.elim) (fun _ _ => trivial) HB4.out HB4.out.size (by have := HPL.out; have := HCL.out; have := HNL.out; simp; omega) ?_
        intro v5 w5 ho hb hg hat
        have HO5 := Aside0.mk ho
        have HB5 := Aside0.mk hb
        clear ho hb hg hat
        (refine Shut.out hK _ _ (HALL.out _ HB5.out) (fun hHeld => ?_); clear hK K; (try simp only [Act.put, List.getElem_toArray, List.getElem_cons_zero, List.getElem_cons_succ, List.setIfInBounds_toArray, List.set_cons_zero, List.set_cons_succ]))
        (refine wpAnyH_ready (rs := [13]) (by kernel_rfl) (by simp) (AllReadyH.cons rfl (fun K hK => ?_) AllReadyH.nil); go_simp)
        refine (HTX.out _ HB5.out).mono ?_
        rintro e w6 ⟨vx, rfl, ho, hb⟩
        obtain ⟨AT, cT, rfl⟩ := Kd.R_slice ho
        have HX6 := Aside0.mk (Kd.R_lower ho HB5.out.size)
        have HO6 := Aside0.mk (Kd.R_below HO5.out hb)
        have HB6 := Aside0.mk (below_step HB5.out hb)
        clear ho hb
        (refine Shut.out hK _ _ (HALL.out _ HB6.out) (fun hHeld => ?_); clear hK K; (try simp only [Act.put, List.getElem_toArray, List.getElem_cons_zero, List.getElem_cons_succ, List.setIfInBounds_toArray, List.set_cons_zero, List.set_cons_succ]))
        refine wpAnyH_ready (rs := [14]) (by kernel_rfl) (by simp) (AllReadyH.cons rfl (fun K hK => ?_) AllReadyH.nil)
        refine Kd.R_append_rows_step (Kd.int .u8) (w0 := w) w.heap.size rfl (.tmp 37) (.tmp 43) 25 5 (.int .u8 0) 1 rfl Try.underlying25 info_u8 rfl (by decide) (by omega) v5 (PV ++ [0] ++ cm ++ nx) tx _ _ _ (fun _ => True) (fun _ => False) rfl rfl HO6.out (Kd.R_reads' HX6.out).2.2 (fun _ _ h => h) (fun _ h => h.elim) (fun _ _ => trivial) HB6.out HB6.out.size (by have := HPL.out; have := HCL.out; have := HNL.out; have := HTL.out; simp; omega) ?_
        intro v7 w7 ho hb hg hat
        rw [show PV ++ [0] ++ cm ++ nx ++ tx = putL (l.take (k + 1)) from by rw [HPS.out, HPE.out]; simp] at ho
        have HO7 := Aside0.mk ho
        have HB7 := Aside0.mk hb
        clear ho hb hg hat
        (refine Shut.out hK _ _ (HALL.out _ HB7.out) (fun hHeld => ?_); clear hK K; (try simp only [Act.put, List.getElem_toArray, List.getElem_cons_zero, List.getElem_cons_succ, List.setIfInBounds_toArray, List.set_cons_zero, List.set_cons_succ]))
        (refine wpAnyH_take (i := 15) (v := ?_) rfl (by kernel_rfl) (by kernel_rfl) (by kernel_rfl) (fun _ _ _ h => h) (Or.inl ⟨by rfl, ?_⟩) (by assumption) ?_; (case' refine_2 => (intro w hSw; go_simp; try with_reducible rfl)); (try simp only [Act.put, List.getElem_toArray, List.getElem_cons_zero, List.getElem_cons_succ, List.setIfInBounds_toArray, List.set_cons_zero, List.set_cons_succ]))
        refine wpAnyH_done (by kernel_rfl) ?_ _
        go_wp2_with (fail)
        go_roundw
        case rel => exact ⟨k + 1, by have := HK.out; omega, by go_num, ⟨HO7.out⟩, HB7.out⟩
        case measure => have := HK.out; simp [intOf]; omega
    · have hkm : k = m := by omega
      subst hkm
      have d1 : decide ((k : Int) < (k : Int)) = false := by simp
      have d2 : decide (k < k) = false := by simp
      have htk : l.take k = l := List.take_of_length_le (by rw [HF.out.1]; exact Nat.le_refl _)
      rw [htk] at HO0
      have HPL := Aside0.mk (show (putL l).length ≤ 1100000 from Nat.le_trans (putL_le _ HF.out.2.2.1 HF.out.2.2.2) (by rw [HF.out.1]; have := HF.out.2.1; omega))
      have HPC := Aside0.mk (show putC l = putL l ++ headT l from rfl)
      obtain ⟨hd, hhd⟩ : ∃ t, headT l = t := ⟨_, rfl⟩
      rw [hhd] at HPC HD
      obtain ⟨PV, hPV⟩ : ∃ t, putL l = t := ⟨_, rfl⟩
      rw [hPV] at HO0 HPL HPC
      obtain ⟨AV, cV, rfl⟩ := Kd.R_slice HO0.out
      clear hlt hk htk hhd hPV
      go_wp2_with (fail)
      refine (HHD.out _ HB0.out).mono ?_
      rintro e w3 ⟨rfl, hb⟩
      have HB3 := Aside0.mk (below_step HB0.out hb)
      have HO3 := Aside0.mk (Kd.R_below HO0.out hb)
      clear hb
      have HY := Aside0.mk (show (w3.alloc (.cells Z32 23)).heap[w3.heap.size]? = some (.cells Z32 23 (0, 0)) from blk_new _ _)
      have HG4 := Aside0.mk (atC_blk (setRow_heap (w3.alloc (.cells Z32 23)) w3.heap.size Z32 D.toArray _ _ HY.out))
      have HB4 := Aside0.mk (show Below w.heap.size w ((w3.alloc (.cells Z32 23)).setRow w3.heap.size D.toArray) from below_setRow (below_alloc HB3.out _) HB3.out.size _)
      have HO4 := Aside0.mk (Kd.R_below HO3.out (show Below w3.heap.size w3 ((w3.alloc (.cells Z32 23)).setRow w3.heap.size D.toArray) from below_setRow (below_alloc (Below.refl _ _) _) (Nat.le_refl _) _))
      go_upto_region 11 with ((with_reducible refine gate_store (t := 23) (p := 5) (v := .tmp 46) rfl ?_); refine wpList_store_row rfl 23 (.tmp 5) (.tmp 46) rfl w3.heap.size D.toArray rfl rfl 23 Z32 HY.out HD.out.blkA HD.out.zsA HD.out.oneA ?_)
      obtain ⟨w4, hw4⟩ : ∃ V, (w3.alloc (.cells Z32 23)).setRow w3.heap.size D.toArray = V := ⟨_, rfl⟩
      rw [hw4] at HG4 HB4 HO4
      rw [show (w3.alloc (.cells #[.int .u8 0, .int .u8 0, .int .u8 0, .int .u8 0, .int .u8 0, .int .u8 0, .int .u8 0, .int .u8 0, .int .u8 0, .int .u8 0, .int .u8 0, .int .u8 0, .int .u8 0, .int .u8 0, .int .u8 0, .int .u8 0, .int .u8 0, .int .u8 0, .int .u8 0, .int .u8 0, .int .u8 0, .int .u8 0, .int .u8 0, .int .u8 0, .int .u8 0, .int .u8 0, .int .u8 0, .int .u8 0, .int .u8 0, .int .u8 0, .int .u8 0, .int .u8 0] 23)).setRow w3.heap.size D.toArray = w4 from hw4]
      obtain ⟨g5, hg5⟩ : ∃ g, w3.heap.size = g := ⟨_, rfl⟩
      rw [hg5] at HG4 ⊢
      clear hw4 hg5 HY HO3 HB3 HB0 HO0
      go_wp2_with ((with_reducible refine gate_builtin (b := .append) (xs := #[.tmp 47, .tmp 48]) rfl ?_); at_builtin; refine Kd.R_append_rows (Kd.int .u8) (w0 := w) w.heap.size rfl (.tmp 47) (.tmp 48) 25 5 (.int .u8 0) 1 rfl Try.underlying25 info_u8 rfl (by decide) (by omega) _ PV hd _ _ _ (fun _ => True) (fun _ => False) rfl rfl HO4.out (c32_at HG4.out HD.out.eq HD.out.len) (fun _ _ h => h) (fun _ h => h.elim) (fun _ _ => trivial) HB4.out HB4.out.size (by have := HPL.out; have := HD.out.len; simp; omega) ?_; intro v1 w5 ho hb hg hat; rw [← HPC.out] at ho; have HB5 := Aside0.mk hb; have HO5 := Aside0.mk ho; clear ho hb hg hat)
      go_ret
      exact ⟨_, rfl, HO5.out, HB5.out⟩
end Go.Proofs.Ytfpkgdenohcglaa.Chn
-- printed for this claim by a program (pall.sh)
-- mended by fixpz.py
namespace Go.Proofs.Ytfpkgdenohcglaa.PZ
open Go.RowKit Go.Proofs.YtfpkgdenohcglaaW.PrintWords Go.Proofs.YtfpkgdenohcglaaW.PrintLast Go.Proofs.YtfpkgdenohcglaaW.PrintMore
attribute [local go_sem] max2_int min2_int max_two min_two max_three min_three max_four min_four   -- for this text's walks alone
set_option linter.unusedVariables false
set_option linter.unusedSimpArgs false

/-! ### bytes_Equal: function 89 -/
def bytes_Equal.f (l0 : List Int) (l1 : List Int) : Option (Bool) := some ((strOfNums l0).toList == (strOfNums l1).toList)
set_option maxHeartbeats 8000000 in
set_option maxRecDepth 100000 in
theorem bytes_Equal.calls (A0 : Option Addr) (c0 : Nat) (l0 : List Int) (A1 : Option Addr) (c1 : Nat) (l1 : List Int) (r : Bool) (w : World) (hr0 : Kd.C (Kd.int .u8) w A0 l0.length l0) (hc0 : l0.length ≤ c0) (hr1 : Kd.C (Kd.int .u8) w A1 l1.length l1) (hc1 : l1.length ≤ c1) (h : bytes_Equal.f l0 l1 = some r) :
  Calls Try.prog 89 #[.slice A0 l0.length c0, .slice A1 l1.length c1] w fun e w' => e = .returned (.bool r) ∧ Drawn0 w w' := by
 have HR0 := Aside0.mk hr0
 have HC0 := Aside0.mk hc0
 clear hr0 hc0
 have HR1 := Aside0.mk hr1
 have HC1 := Aside0.mk hc1
 clear hr1 hc1
 have H : (some ((strOfNums l0).toList == (strOfNums l1).toList)) = some r := h
 clear h
 obtain rfl := Option.some.inj H
 have hcv3 := Kd.C_string (P := Try.prog) (A := A0) (c := c0) Try.underlying25 Try.underlying5 Try.underlying9 HR0.out
 have hcv4 := Kd.C_string (P := Try.prog) (A := A1) (c := c1) Try.underlying25 Try.underlying5 Try.underlying9 HR1.out
 go_enter Try.func89, Try.ntmps89
 go_wp2
 go_ret
 exact ⟨by first | rfl | (simp; done) | (simp [*]; done), by repeat (first | exact Drawn0.refl _ | apply Drawn0.step)⟩

end Go.Proofs.Ytfpkgdenohcglaa.PZ
