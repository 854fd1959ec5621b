import Derived.Test.YtbebkogkeepfoaaShaMix
import Derived.Test.YtbebkogkeepfoaaAid
/- sha: roots, New and Write walked. -/
namespace Go.Proofs.Ytbebkogkeepfoaa.Sha
set_option linter.unusedVariables false
open Go.RowKit Go.Proofs.Ytbebkogkeepfoaa.Base Go.Proofs.Ytbebkogkeepfoaa.ShaPlain Go.Proofs.Ytbebkogkeepfoaa.Aid Go.Proofs.YtbebkogkeepfoaaW.PrintWords Go.Proofs.YtbebkogkeepfoaaW.PrintLast Go.Proofs.YtbebkogkeepfoaaW.PrintMore
set_option maxHeartbeats 2000000 in
set_option maxRecDepth 100000 in
theorem roots_c (w : World) : Calls Try.prog 46 #[] w fun e w' => ∃ p : Nat, e = .returned (.pointer (some ⟨p, 0, none⟩)) ∧ w.heap.size ≤ p ∧ Words w' p 89 keys ∧ Below w.heap.size w w' := by
  go_enter Try.func46, Try.ntmps46
  go_wp2
  go_ret
  exact ⟨_, rfl, Nat.le_refl _, blk_new _ _, below_alloc (Below.refl _ _) _⟩
set_option maxHeartbeats 2000000 in
set_option maxRecDepth 100000 in
theorem new_c (w : World) : Calls Try.prog 18 #[] w fun e w' => ∃ g : Nat, e = .returned (.pointer (some ⟨g, 0, none⟩)) ∧ Hsh w w' g true ShaPlain.start (List.replicate 64 0) 0 ∧ Below w.heap.size w w' := by
  go_enter Try.func18, Try.ntmps18
  go_wp2
  go_ret
  exact ⟨_, rfl, ⟨Nat.le_refl _, blk_new _ _, rfl, by simp, start_u32, fun x hx => by rw [List.eq_of_mem_replicate hx]; omega⟩, below_alloc (Below.refl _ _) _⟩
/-- A Hash's state: the eight words, the block under way, how many bytes there were. -/
abbrev St := List Int × List Int × Nat
def put (st : St) (c : Int) : St := (if st.2.2 % 64 = 63 then press st.1 (st.2.1.set (st.2.2 % 64) c) else st.1, st.2.1.set (st.2.2 % 64) c, st.2.2 + 1)
theorem put_n (st : St) (c : Int) : (put st c).2.2 = st.2.2 + 1 := rfl
theorem puts_n (l : List Int) : ∀ st : St, (l.foldl put st).2.2 = st.2.2 + l.length := by
  induction l with
  | nil => intro st; rfl
  | cons c l ih => intro st; rw [List.foldl_cons, ih, put_n, List.length_cons]; omega
def HS (w0 w : World) (g : Nat) (st : St) : Prop := Hsh w0 w g true st.1 st.2.1 st.2.2
/-- What a Write under way has left. -/
def WInv (w0 w : World) (g kb : Nat) (st : St) (wx : World) : Prop := HS w0 wx g st ∧ Below w0.heap.size w0 wx ∧ KeepBut w wx g none ∧ Words wx kb 89 keys
theorem WInv.byte {w0 w wr : World} {g kb : Nat} {s r : List Int} {n m : Nat} {x : Int} (h : WInv w0 w g kb (s, r, n) wr) (hm : m < 64) (hx : 0 ≤ x ∧ x ≤ 255) (hkb : kb ≠ g) :
    WInv w0 w g kb (s, r.set m x, n + 1) ((wr.setCell ⟨g, 9 + m, none⟩ (.int .u8 x)).setCell ⟨g, 73, none⟩ (.int .u64 ((n : Int) + 1))) := by
  have h1 := (Hsh.set_rest h.1 m x hm hx).set_n ((n : Int) + 1)
  have hk1 : KeepBut wr ((wr.setCell ⟨g, 9 + m, none⟩ (.int .u8 x)).setCell ⟨g, 73, none⟩ (.int .u64 ((n : Int) + 1))) g none := ((KeepBut.refl wr g none).set_ _ _).set_ _ _
  exact ⟨h1, below_set (below_set h.2.1 h.1.1) h.1.1, h.2.2.1.trans hk1 (.inl rfl), hk1.blk h.2.2.2 hkb (by simp)⟩
theorem foldl_snoc {st : St} {b : List Int} {k : Nat} (hk : k < b.length) : List.foldl put st (b.take (k + 1)) = put (List.foldl put st (b.take k)) b[k] := by
  rw [take_snoc b k hk, List.foldl_append]; rfl
set_option maxHeartbeats 4000000 in
set_option maxRecDepth 100000 in
theorem write_c (w0 w : World) (g : Nat) (st : St) (A : Option Addr) (c : Nat) (b : List Int) (h : HS w0 w g st) (hB : Below w0.heap.size w0 w) (hr : Rb w A b) (hc : b.length ≤ c) (hu : ∀ x ∈ b, 0 ≤ x ∧ x ≤ 255) (hne : ∀ a, A = some a → 0 < b.length → a.block ≠ g) (hn : st.2.2 + b.length ≤ 1152921504606846976) :
    Calls Try.prog 19 #[.pointer (some ⟨g, 0, none⟩), .slice A b.length c] w fun e w' => e = .returned (.tuple #[]) ∧ HS w0 w' g (b.foldl put st) ∧ Below w0.heap.size w0 w' ∧ KeepBut w w' g none := by
  have c0 : w.cell? ⟨g, 0, none⟩ = some (.bool true) := h.made_
  have HH := Aside0.mk h
  have HB := Aside0.mk hB
  have HR := Aside0.mk hr
  have HC := Aside0.mk hc
  have HU := Aside0.mk hu
  have HNE := Aside0.mk hne
  have HN := Aside0.mk hn
  have hlen : b.length ≤ 1152921504606846976 := by omega
  clear h hB hr hc hu hne hn
  go_enter Try.func19, Try.ntmps19
  go_wp2_with (fail)
  refine (roots_c _).mono ?_
  rintro e w1 ⟨kb, rfl, hkb, hk, hb⟩
  have H0 := Aside0.mk (show WInv w0 w g kb (List.foldl put st (b.take 0)) w1 from ⟨HH.out.below hb, below_step HB.out hb, KeepBut.of_below hb g none, hk⟩)
  have HKB := Aside0.mk (show kb ≠ g by have := HH.out.lt; omega)
  clear hkb hk hb c0
  go_wp2
  go_loopw [6, 7, 20] (fun _ _ i wx => ∃ k : Nat, k ≤ b.length ∧ i = .int .i64 k ∧ WInv w0 w g kb (List.foldl put st (b.take k)) wx) (fun _ _ i _ => b.length - (intOf i).toNat)
  case atStart => exact ⟨0, by omega, rfl, H0.out⟩
  case round =>
    clear H0
    obtain ⟨k, hk, rfl, hinv⟩ := hrel
    have HI := Aside0.mk hinv
    by_cases hlt : k < b.length
    · obtain ⟨ad, rfl, hcell⟩ := Kd.at_int HR.out k (by omega) (by omega)
      obtain ⟨x, hx⟩ : ∃ x, b[k] = x := ⟨_, rfl⟩
      have HX := Aside0.mk hx
      rw [rd_nat b k hlt, hx, Int.toNat_natCast] at hcell
      have hcx : wr.cell? (ad.add k) = some (.int .u8 x) := keep_cell hinv.2.2.1 hcell (by
        rw [show (ad.add k).block = ad.block from by unfold Addr.add; split <;> rfl]
        exact HNE.out ad rfl (by omega))
      have hxr := HU.out x (by rw [← hx]; exact List.getElem_mem hlt)
      have hpn := puts_n (b.take k) st
      obtain ⟨stk, hst⟩ : ∃ z, List.foldl put st (b.take k) = z := ⟨_, rfl⟩
      have HST := Aside0.mk hst
      rw [hst] at hinv hpn HI
      obtain ⟨s, r, n⟩ := stk
      rw [List.length_take, Nat.min_eq_left hk] at hpn
      have hn' : n ≤ 1152921504606846976 := by have := HN.out; dsimp only at hpn; omega
      obtain ⟨m, hm⟩ : ∃ m, n % 64 = m := ⟨_, rfl⟩
      have HM := Aside0.mk hm
      have hm64 : m < 64 := by omega
      have hmi : (n : Int) % 64 = (m : Int) := by omega
      have hn0 : (0 : Int) ≤ (n : Int) := by omega
      have hnw : IntKind.u64.wrap ((n : Int) + 1) = ((n + 1 : Nat) : Int) := IntWalk.u64_in _ (by omega)
      have cn : wr.cell? ⟨g, 73, none⟩ = some (.int .u64 (n : Int)) := hinv.1.n_
      have cr : wr.cell? ⟨g, 9 + m, none⟩ = some (.int .u8 (r.getD m 0)) := hinv.1.rest m hm64
      have fr := hinv.1.free (9 + m)
      have H1 := Hsh.set_rest hinv.1 m x hm64 hxr
      have cn1 : (wr.setCell ⟨g, 9 + m, none⟩ (.int .u8 x)).cell? ⟨g, 73, none⟩ = some (.int .u64 (n : Int)) := H1.n_
      have fn1 := H1.free 73
      have m0 : (0 : Int) ≤ (m : Int) := by omega
      have m1 : (m : Int) < 64 := by omega
      clear hx hcell hpn hst hm hinv H1
      by_cases h63 : m = 63
      · have hb63 : ((m : Int) == 63) = true := by simp; omega
        have HXR := Aside0.mk hxr
        have HM64 := Aside0.mk hm64
        have H63 := Aside0.mk h63
        clear h63 hm64 hxr
        go_wp2_with (fail)
        have hB := WInv.byte HI.out HM64.out HXR.out HKB.out
        refine (mix_c w0 _ g kb s (r.set m x) ((n : Int) + 1) (show Hsh w0 _ g true s (r.set m x) ((n : Int) + 1) from hB.1) hB.2.1 hB.2.2.2 HKB.out).mono ?_
        rintro e w2 ⟨rfl, h1, h2, h3⟩
        have HF := Aside0.mk (show WInv w0 w g kb (List.foldl put st (b.take (k + 1))) w2 from by
          rw [foldl_snoc hlt, HST.out, HX.out]
          have e : put (s, r, n) x = (press s (r.set m x), r.set m x, n + 1) := by
            unfold put
            dsimp only
            rw [HM.out, if_pos H63.out]
          rw [e]
          exact ⟨h1, h2, hB.2.2.1.trans h3 (.inl rfl), h3.blk hB.2.2.2 HKB.out (by simp)⟩)
        clear h1 h2 h3 hB cn cr fr cn1 fn1
        go_wp2
        go_roundw
        case rel => exact ⟨k + 1, by omega, by go_num, HF.out⟩
        case measure => simp [intOf]; omega
      · have hb63 : ((m : Int) == 63) = false := by simp; omega
        have HF := Aside0.mk (show WInv w0 w g kb (List.foldl put st (b.take (k + 1))) ((wr.setCell ⟨g, 9 + m, none⟩ (.int .u8 x)).setCell ⟨g, 73, none⟩ (.int .u64 ((n : Int) + 1))) from by
          rw [foldl_snoc hlt, HST.out, HX.out]
          have e : put (s, r, n) x = (s, r.set m x, n + 1) := by
            unfold put
            dsimp only
            rw [HM.out, if_neg h63]
          rw [e]
          exact WInv.byte HI.out hm64 hxr HKB.out)
        go_wp2
        go_roundw
        case rel => exact ⟨k + 1, by omega, by go_num, HF.out⟩
        case measure => simp [intOf]; omega
    · have HKE := Aside0.mk (show b.take k = b from List.take_of_length_le (by omega))
      have hge : b.length ≤ k := by omega
      clear hinv hlt
      go_wp2
      go_end0
      have h := HI.out
      rw [HKE.out] at h
      exact ⟨rfl, h.1, h.2.1, h.2.2.1⟩
end Go.Proofs.Ytbebkogkeepfoaa.Sha
