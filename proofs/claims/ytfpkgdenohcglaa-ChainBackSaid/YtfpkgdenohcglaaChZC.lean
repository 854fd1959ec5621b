/- Own and printed texts, laid together. -/
import Derived.Test.YtfpkgdenohcglaaChZB
import Derived.Lib.SliceRun
import Derived.Laws.CopyRow
import Derived.WalkSpells
/- A chain's bytes, and which chain bytes are, in plain words; what was put is got; what was added verifies, whatever is redacted. -/
namespace Go.Proofs.Ytfpkgdenohcglaa.Chn
set_option linter.unusedVariables false
set_option linter.unusedSimpArgs false
open Go.RowKit Go.Proofs.Ytfpkgdenohcglaa.Base Go.Proofs.Ytfpkgdenohcglaa.TlvPlain Go.Proofs.Ytfpkgdenohcglaa.Lo Go.Proofs.Ytfpkgdenohcglaa.RdPlain Go.Proofs.Ytfpkgdenohcglaa.Aid Go.Proofs.Ytfpkgdenohcglaa.Com Go.Proofs.Ytfpkgdenohcglaa.Sha Go.Proofs.Ytfpkgdenohcglaa.ShaPlain
attribute [local irreducible] shaB
def flagE (x : Ent) : Int := if redE x then 1 else 0
def putE (x : Ent) : List Int := flagE x :: (comE x ++ (numB (saltE x) ++ textB (payE x)))
def putL (l : List Ent) : List Int := l.flatMap putE
def putC (l : List Ent) : List Int := putL l ++ headT l
/-- The next 32 bytes; or 32 that are 0. -/
def sumO (st : Option (List Int)) : Sm × Option (List Int) := (if (takeO st 32).1.length = 32 then (takeO st 32).1 else Z, (takeO st 32).2)
theorem sumO_app {d r : List Int} (h : d.length = 32) : sumO (some (d ++ r)) = (d, some r) := by
  have := take_app d r
  rw [h] at this
  unfold sumO
  rw [show takeO (some (d ++ r)) 32 = (d, some r) from this]
  dsimp only
  rw [if_pos h]
theorem sumO_none : sumO none = (Z, none) := by unfold sumO; rw [take_none]; rfl
theorem sumO_len (st : Option (List Int)) : (sumO st).1.length = 32 := by
  unfold sumO
  dsimp only
  split
  · assumption
  · exact Z_len
/-- An entry's fields, as they are read: its flag, commitment, salt, payload; and what is left. -/
structure Rd where
  f : List Int
  com : Sm
  salt : Int
  pay : List Int
  st : Option (List Int)
def rdE (st : Option (List Int)) : Rd :=
  ⟨(takeO st 1).1, (sumO (takeO st 1).2).1, (numO (sumO (takeO st 1).2).2).1, (textO (numO (sumO (takeO st 1).2).2).2 100).1, (textO (numO (sumO (takeO st 1).2).2).2 100).2⟩
def entR (st : Option (List Int)) (seq : Int) (prev : Sm) : Ent := (seq, prev, (rdE st).com, (rdE st).salt, (rdE st).pay, decide ((rdE st).f.getD 0 0 = 1))
/-- The next entry, behind others. -/
def readE (st : Option (List Int)) (seq : Int) (prev : Sm) : Option (Ent × List Int) :=
  match (rdE st).st with
  | none => none
  | some r => if 1 < (rdE st).f.getD 0 0 then none else if rightT (entR st seq prev) then some (entR st seq prev, r) else none
def finC (bs : List Int) (l : List Ent) : List Ent × Int := if bs.length = 32 ∧ bs = headT l then (l, 0) else ([], 2)
/-- Which chain bytes are, l being those ahead. -/
def getN : Nat → List Int → List Ent → List Ent × Int
  | 0, bs, l => finC bs l
  | n + 1, bs, l => if 32 < bs.length then
      match readE (some bs) (l.length : Int) (headT l) with
      | none => ([], 2)
      | some (x, r) => if 120 ≤ l.length then ([], 2) else getN n r (l ++ [x])
    else finC bs l
def getC (b : List Int) : List Ent × Int := getN b.length b []
theorem rd_put {x : Ent} (hu : Eu x) (hp : (payE x).length ≤ 100) (r : List Int) : rdE (some (putE x ++ r)) = ⟨[flagE x], comE x, saltE x, payE x, some r⟩ := by
  unfold rdE
  have t1 : takeO (some (putE x ++ r)) 1 = ([flagE x], some (comE x ++ (numB (saltE x) ++ (textB (payE x) ++ r)))) := by
    have := take_app [flagE x] (comE x ++ (numB (saltE x) ++ (textB (payE x) ++ r)))
    rw [show putE x ++ r = [flagE x] ++ (comE x ++ (numB (saltE x) ++ (textB (payE x) ++ r))) by unfold putE; simp]
    exact this
  rw [t1]
  dsimp only
  rw [sumO_app hu.cl]
  dsimp only
  rw [numO_numB _ hu.s0 hu.s1]
  dsimp only
  rw [text_textB (by omega) (by decide)]
theorem read_put {x : Ent} (hu : Eu x) (hp : (payE x).length ≤ 100) (hr : rightT x = true) (r : List Int) : readE (some (putE x ++ r)) (seqE x) (prevE x) = some (x, r) := by
  have he : entR (some (putE x ++ r)) (seqE x) (prevE x) = x := by
    unfold entR
    rw [rd_put hu hp]
    obtain ⟨a, b, c, d, e, f⟩ := x
    cases f <;> rfl
  unfold readE
  rw [he, rd_put hu hp]
  dsimp only
  rw [if_neg (by unfold flagE; simp only [List.getD_cons_zero]; split <;> decide), if_pos hr]
theorem putE_len (x : Ent) : 1 ≤ (putE x).length := by unfold putE; rw [List.length_cons]; omega
theorem badT_cons {x : Ent} {l : List Ent} {i : Nat} {d : Sm} (h : badT (x :: l) i d = none) : okT i d x = true ∧ badT l (i + 1) (linkT x) = none := by
  rw [badT] at h
  split at h
  · next c => exact ⟨c, h⟩
  · cases h
theorem ok_parts {i : Nat} {d : Sm} {x : Ent} (h : okT i d x = true) : seqE x = (i : Int) ∧ prevE x = d ∧ rightT x = true := by
  unfold okT at h
  simp only [Bool.and_eq_true, decide_eq_true_eq] at h
  exact h
theorem get_put_from : ∀ (n : Nat) (m l : List Ent), (putL m ++ headT (l ++ m)).length ≤ n → Lu' m → (∀ x ∈ m, (payE x).length ≤ 100) → l.length + m.length ≤ 120 → badT m l.length (headT l) = none → getN n (putL m ++ headT (l ++ m)) l = (l ++ m, 0)
  | n, [], l, hn, _, _, _, _ => by
    have hf : finC (headT l) l = (l, 0) := by unfold finC; rw [if_pos ⟨headT_len l, rfl⟩]
    simp only [putL, List.flatMap_nil, List.nil_append, List.append_nil] at hn ⊢
    cases n with
    | zero => exact hf
    | succ n => rw [getN, if_neg (by rw [headT_len]; omega)]; exact hf
  | 0, x :: m, l, hn, _, _, _, _ => by
    rw [List.length_append, headT_len] at hn
    omega
  | n + 1, x :: m, l, hn, hu, hp, hl, hb => by
    obtain ⟨ho, hb'⟩ := badT_cons hb
    obtain ⟨h1, h2, h3⟩ := ok_parts ho
    have e0 : putL (x :: m) ++ headT (l ++ x :: m) = putE x ++ (putL m ++ headT (l ++ [x] ++ m)) := by
      unfold putL
      rw [List.flatMap_cons, List.append_assoc, List.append_assoc, List.singleton_append]
    have hlen := putE_len x
    rw [e0] at hn ⊢
    rw [List.length_append] at hn
    rw [getN, if_pos (by rw [List.length_append, List.length_append, headT_len]; omega), ← h1, ← h2, read_put (hu x List.mem_cons_self) (hp x List.mem_cons_self) h3]
    dsimp only
    rw [List.length_cons] at hl
    rw [if_neg (by omega)]
    have := get_put_from n m (l ++ [x]) (by omega) (fun y hy => hu y (List.mem_cons_of_mem _ hy)) (fun y hy => hp y (List.mem_cons_of_mem _ hy)) (by rw [List.length_append, List.length_singleton]; omega) (by rw [List.length_append, headT_snoc]; exact hb')
    rw [this]
    simp
theorem get_put {l : List Ent} (hu : Lu' l) (hp : ∀ x ∈ l, (payE x).length ≤ 100) (hl : l.length ≤ 120) (hb : badT l 0 Z = none) : getC (putC l) = (l, 0) := by
  have := get_put_from (putC l).length l [] (Nat.le_refl _) hu hp (by simpa using hl) hb
  exact this
def lastD (l : List Ent) (d : Sm) : Sm := match l.getLast? with | none => d | some y => linkT y
/-- One more. -/
theorem bad_snoc : ∀ (l : List Ent) (i : Nat) (d : Sm) (x : Ent), badT l i d = none → okT (i + l.length) (lastD l d) x = true → badT (l ++ [x]) i d = none
  | [], i, d, x, _, h => by
    have h' : okT i d x = true := h
    rw [List.nil_append, badT, if_pos h', badT]
  | y :: l, i, d, x, hb, h => by
    obtain ⟨h1, h2⟩ := badT_cons hb
    rw [List.cons_append, badT, if_pos h1]
    refine bad_snoc l (i + 1) (linkT y) x h2 ?_
    rw [List.length_cons] at h
    rw [show i + 1 + l.length = i + (l.length + 1) by omega]
    cases l with
    | nil => exact h
    | cons z l =>
      have e : lastD (y :: z :: l) d = lastD (z :: l) (linkT y) := by
        unfold lastD
        rw [List.getLast?_cons_cons, List.getLast?_cons]
      rw [← e]
      exact h
theorem add_bad {l : List Ent} (h : badT l 0 Z = none) (salt : Int) (pay : List Int) : badT (addT l salt pay) 0 Z = none := by
  unfold addT
  refine bad_snoc l 0 Z _ h ?_
  rw [Nat.zero_add]
  have h3 : rightT ((l.length : Int), headT l, comH salt pay, salt, pay, false) = true := by
    unfold rightT
    rw [if_neg (show ¬ (redE ((l.length : Int), headT l, comH salt pay, salt, pay, false) = true) from Bool.false_ne_true)]
    exact decide_eq_true rfl
  unfold okT
  rw [h3]
  exact (by rw [decide_eq_true (show seqE ((l.length : Int), headT l, comH salt pay, salt, pay, false) = ((l.length : Nat) : Int) from rfl), decide_eq_true (show prevE ((l.length : Int), headT l, comH salt pay, salt, pay, false) = lastD l Z from rfl)]; rfl)
theorem cut_link (x : Ent) : linkT (cutE x) = linkT x := rfl
theorem cut_ok {i : Nat} {d : Sm} {x : Ent} (h : okT i d x = true) : okT i d (cutE x) = true := by
  obtain ⟨h1, h2, _⟩ := ok_parts h
  unfold okT
  simp only [Bool.and_eq_true, decide_eq_true_eq]
  exact ⟨h1, h2, rfl⟩
theorem cut_bad : ∀ (l : List Ent) (i : Nat) (d : Sm) (k : Nat) (hk : k < l.length), badT l i d = none → badT (l.set k (cutE l[k])) i d = none
  | x :: l, i, d, 0, hk, h => by
    obtain ⟨h1, h2⟩ := badT_cons h
    rw [List.set_cons_zero, badT]
    dsimp only [List.getElem_cons_zero]
    rw [if_pos (cut_ok h1), cut_link]
    exact h2
  | x :: l, i, d, k + 1, hk, h => by
    obtain ⟨h1, h2⟩ := badT_cons h
    rw [List.set_cons_succ, badT, if_pos h1]
    exact cut_bad l (i + 1) (linkT x) k (by simpa using hk) h2
theorem head_map (l : List Ent) : headT l = match (l.map linkT).getLast? with | none => Z | some d => d := by
  unfold headT
  rw [List.getLast?_map]
  cases l.getLast? <;> rfl
theorem cut_head (l : List Ent) (k : Nat) (hk : k < l.length) : headT (l.set k (cutE l[k])) = headT l := by
  rw [head_map, head_map, List.map_set, cut_link]
  have e : (l.map linkT).set k (linkT l[k]) = l.map linkT := by
    apply List.ext_getElem? 
    intro i
    by_cases hi : i = k
    · subst hi
      rw [List.getElem?_set_self (by simpa using hk), List.getElem?_map, List.getElem?_eq_getElem hk]
      rfl
    · rw [List.getElem?_set_ne (fun e => hi e.symm)]
  rw [e]
/-- What has been added and redacted, i of it being looked at. -/
structure Bk (n : Nat) (h : Sm) (i : Nat) (l : List Ent) : Prop where
  len : l.length = n
  bad : badT l 0 Z = none
  hd : headT l = h
  u : Lu' l
  p : ∀ x ∈ l, (payE x).length ≤ 100
  nr : ∀ j x, i ≤ j → l[j]? = some x → redE x = false
theorem Bk.next {n i : Nat} {h : Sm} {l : List Ent} (H : Bk n h i l) : Bk n h (i + 1) l := ⟨H.len, H.bad, H.hd, H.u, H.p, fun j x hj hx => H.nr j x (by omega) hx⟩
theorem cut_eu {x : Ent} (h : Eu x) : Eu (cutE x) := ⟨h.pl, h.pu, h.cl, h.cu, Int.le_refl _, by show (0 : Int) ≤ _; decide, fun y hy => by cases hy⟩
theorem Bk.cut {n i : Nat} {h : Sm} {l : List Ent} (H : Bk n h i l) (hi : i < l.length) : redT l (i : Int) = (l.set i (cutE l[i]), 0) ∧ Bk n h (i + 1) (l.set i (cutE l[i])) := by
  refine ⟨?_, ⟨by rw [List.length_set]; exact H.len, cut_bad l 0 Z i hi H.bad, by rw [cut_head]; exact H.hd, ?_, ?_, ?_⟩⟩
  · unfold redT
    rw [if_pos ⟨by omega, by omega⟩, Int.toNat_natCast, List.getElem?_eq_getElem hi]
    dsimp only
    rw [H.nr i _ (Nat.le_refl _) (List.getElem?_eq_getElem hi)]
    rfl
  · intro x hx
    rcases List.mem_or_eq_of_mem_set hx with h | rfl
    · exact H.u x h
    · exact cut_eu (H.u _ (List.getElem_mem hi))
  · intro x hx
    rcases List.mem_or_eq_of_mem_set hx with h | rfl
    · exact H.p x h
    · exact Nat.zero_le _
  · intro j x hj hx
    rw [List.getElem?_set_ne (by omega)] at hx
    exact H.nr j x (by omega) hx
/-- What has been added so far. -/
structure Ad (k : Nat) (l : List Ent) : Prop where
  len : l.length = k
  bad : badT l 0 Z = none
  u : Lu' l
  p : ∀ x ∈ l, (payE x).length ≤ 100
  nr : ∀ x ∈ l, redE x = false
theorem Ad.nil : Ad 0 [] := ⟨rfl, rfl, (fun _ h => by cases h), (fun _ h => by cases h), (fun _ h => by cases h)⟩
theorem Ad.add {k : Nat} {l : List Ent} (H : Ad k l) {salt : Int} {pay : List Int} (h0 : 0 ≤ salt) (h1 : salt ≤ 18446744073709551615) (hp : U8 pay) (hl : pay.length ≤ 100) : Ad (k + 1) (addT l salt pay) := by
  have hE : Eu ((l.length : Int), headT l, comH salt pay, salt, pay, false) := ⟨headT_len _, headT_u8 _, comH_len _ _, comH_u8 _ _, h0, h1, hp⟩
  refine ⟨by unfold addT; rw [List.length_append, H.len]; rfl, add_bad H.bad _ _, ?_, ?_, ?_⟩
  all_goals
    intro x hx
    rcases List.mem_append.1 hx with h | h
  · exact H.u x h
  · rw [List.mem_singleton.1 h]; exact hE
  · exact H.p x h
  · rw [List.mem_singleton.1 h]; exact hl
  · exact H.nr x h
  · rw [List.mem_singleton.1 h]
theorem Ad.bk {n : Nat} {l : List Ent} (H : Ad n l) : Bk n (headT l) 0 l := ⟨H.len, H.bad, rfl, H.u, H.p, fun j x _ hx => H.nr x (List.mem_of_getElem? hx)⟩
theorem Bk.ver {n i : Nat} {h : Sm} {l : List Ent} (H : Bk n h i l) : verT l h (n : Int) = ((n : Int), true) := by
  unfold verT
  rw [H.bad, H.len]
  dsimp only
  rw [decide_eq_true rfl, decide_eq_true H.hd]
  rfl
theorem Bk.get {n i : Nat} {h : Sm} {l : List Ent} (H : Bk n h i l) (hn : n ≤ 120) : getC (putC l) = (l, 0) := get_put H.u H.p (by rw [H.len]; exact hn) H.bad
theorem putE_u8 {x : Ent} (h : Eu x) (hp : (payE x).length ≤ 1000000) : U8 (putE x) := by
  unfold putE
  refine U8.cons (by unfold flagE; split <;> decide) (U8.append h.cu (U8.append (fun y hy => numB_u8 h.s1 y hy) (textB_u8 h.u hp)))
end Go.Proofs.Ytfpkgdenohcglaa.Chn
/- chain.link, right, Head; the document's. -/
namespace Go.Proofs.Ytfpkgdenohcglaa.Chn
set_option linter.unusedVariables false
set_option linter.unusedSimpArgs false
open Go.RowKit Go.Proofs.Ytfpkgdenohcglaa.Base Go.Proofs.Ytfpkgdenohcglaa.TlvPlain Go.Proofs.Ytfpkgdenohcglaa.ShaPlain Go.Proofs.Ytfpkgdenohcglaa.Sha Go.Proofs.Ytfpkgdenohcglaa.Com Go.Proofs.Ytfpkgdenohcglaa.Aid Go.Proofs.YtfpkgdenohcglaaW.PrintWords Go.Proofs.YtfpkgdenohcglaaW.PrintLast Go.Proofs.YtfpkgdenohcglaaW.PrintMore
theorem clink_c (x : Ent) (h : Eu x) (w : World) : Calls Try.prog 91 #[.int .i64 (seqE x), sumV (prevE x), sumV (comE x)] w (Ret w (linkT x)) := by
  unfold Ret linkT
  rw [linkH_eq]
  exact link_c (seqE x) (prevE x) (comE x) h.pl h.cl h.pu h.cu w
theorem ccheck_c (x : Ent) (h : Eu x) (hl : (payE x).length ≤ 100000) (A : Option Addr) (c : Nat) (hc : (payE x).length ≤ c) (w : World) (hr : Rb w A (payE x)) :
    Calls Try.prog 71 #[sumV (comE x), .int .u64 (saltE x), .slice A (payE x).length c] w (RetB w (decide (comE x = comH (saltE x) (payE x)))) := by
  unfold RetB
  have h2 := chk_c (comE x) h.cl (saltE x) h.s0 h.s1 A c (payE x) w hr hc h.u hl
  rw [← comH_eq] at h2
  rw [show decide (comE x = comH (saltE x) (payE x)) = decide (comH (saltE x) (payE x) = comE x) from by rw [Bool.eq_iff_iff, decide_eq_true_eq, decide_eq_true_eq]; exact eq_comm]
  exact h2
set_option maxHeartbeats 4000000 in
set_option maxRecDepth 100000 in
theorem link1_c (x : Ent) (h : Eu x) (P C : List Value) (A : Option Addr) (c : Nat) (w : World) (hC : EntC w x P C A c) :
    Calls Try.prog 55 #[.agg (cE x P C A c).toArray] w (Ret w (linkT x)) := by
  obtain ⟨D, hD⟩ := sumC (linkT x) (linkT_len x)
  have HD := Aside0.mk hD
  have HIP := Aside0.mk hC.fp.blk
  have HIC := Aside0.mk hC.fc.blk
  have HT := Aside0.mk (clink_c x h)
  unfold Ret at HT ⊢
  rw [hC.fp.v, hC.fc.v, hD.v] at HT
  rw [hD.v]
  obtain ⟨AA, hAA⟩ : ∃ AA, (cE x P C A c).toArray = AA := ⟨_, rfl⟩
  have HA0 := Aside0.mk (entAt_blk (W := w.alloc (.cells (cE x P C A c).toArray 27)) (T := 27) (fr := (0, 0)) hC.fp.lenC hC.fc.lenC (blk_new w (.cells (cE x P C A c).toArray 27)))
  rw [hAA] at HA0 ⊢
  have HA := Aside0.mk (HA0.out.below (below_alloc (Below.refl _ _) (.cells Z32 23)))
  have HZ := Aside0.mk (show ((w.alloc (.cells AA 27)).alloc (.cells Z32 23)).heap[w.heap.size + 1]? = some (.cells Z32 23 (0, 0)) from second_new' _ _ _)
  have HB := Aside0.mk (show Below w.heap.size w ((w.alloc (.cells AA 27)).alloc (.cells Z32 23)) from below_alloc (below_alloc (Below.refl _ _) _) _)
  clear hC h hD hAA HA0
  go_enter Try.func55, Try.ntmps55
  go_upto_region 1 with (fail)
  obtain ⟨w1, hw1⟩ : ∃ W, (w.alloc (.cells AA 27)).alloc (.cells Z32 23) = W := ⟨_, rfl⟩
  rw [hw1] at HA HZ HB
  rw [show (w.alloc (.cells AA 27)).alloc (.cells #[.int .u8 0, .int .u8 0, .int .u8 0, .int .u8 0, .int .u8 0, .int .u8 0, .int .u8 0, .int .u8 0, .int .u8 0, .int .u8 0, .int .u8 0, .int .u8 0, .int .u8 0, .int .u8 0, .int .u8 0, .int .u8 0, .int .u8 0, .int .u8 0, .int .u8 0, .int .u8 0, .int .u8 0, .int .u8 0, .int .u8 0, .int .u8 0, .int .u8 0, .int .u8 0, .int .u8 0, .int .u8 0, .int .u8 0, .int .u8 0, .int .u8 0, .int .u8 0] 23) = w1 from hw1]
  clear hw1
  have hs := HA.out.s
  go_wp2_with (first
    | ((with_reducible refine gate_dst (N := 6) rfl ?_); refine wpList_load_at rfl 23 (.tmp 5) rfl ⟨w.heap.size, 1, none⟩ rfl P _ HA.out.fp Try.underlying23 rfl HIP.out ?_)
    | ((with_reducible refine gate_dst (N := 8) rfl ?_); refine wpList_load_at rfl 23 (.tmp 7) rfl ⟨w.heap.size, 33, none⟩ rfl C _ HA.out.fc Try.underlying23 rfl HIC.out ?_))
  clear hs
  refine (HT.out _).mono ?_
  rintro e w2 ⟨rfl, hb⟩
  have HZ2 := Aside0.mk (blk_below HZ.out hb)
  have HB2 := Aside0.mk (below_step HB.out hb)
  clear hb
  go_wp2_with ((with_reducible refine gate_store (t := 23) (p := 2) (v := .tmp 9) rfl ?_); refine wpList_store_row rfl 23 (.tmp 2) (.tmp 9) rfl (w.heap.size + 1) D.toArray rfl rfl 23 Z32 HZ2.out HD.out.blkA HD.out.zsA HD.out.oneA ?_)
  have HSR := setRow_heap w2 (w.heap.size + 1) Z32 D.toArray _ _ HZ2.out
  refine bodyPost_ret (v := .agg D.toArray) (results_cell_row rfl _ _ (w.heap.size + 1) 23 D.toArray (0, 0) _ rfl HSR Try.underlying23 rfl HD.out.blkA) rfl ⟨rfl, below_setRow HB2.out (Nat.le_succ _) D.toArray⟩
set_option maxHeartbeats 4000000 in
set_option maxRecDepth 100000 in
theorem right1_c (x : Ent) (h : Eu x) (hl : (payE x).length ≤ 100000) (P C : List Value) (A : Option Addr) (c : Nat) (w : World) (hC : EntC w x P C A c) :
    Calls Try.prog 54 #[.agg (cE x P C A c).toArray] w (RetB w (rightT x)) := by
  have HIC := Aside0.mk hC.fc.blk
  have HT := Aside0.mk (fun W hW => ccheck_c x h hl A c hC.hc W (Kd.C_below hC.r hW))
  unfold RetB at HT ⊢
  rw [hC.fc.v] at HT
  obtain ⟨AA, hAA⟩ : ∃ AA, (cE x P C A c).toArray = AA := ⟨_, rfl⟩
  have HA0 := Aside0.mk (entAt_blk (W := w.alloc (.cells (cE x P C A c).toArray 27)) (T := 27) (fr := (0, 0)) hC.fp.lenC hC.fc.lenC (blk_new w (.cells (cE x P C A c).toArray 27)))
  rw [hAA] at HA0 ⊢
  have HB := Aside0.mk (show Below w.heap.size w (w.alloc (.cells AA 27)) from below_alloc (Below.refl _ _) _)
  unfold rightT
  obtain ⟨cb, hcb⟩ : ∃ b, decide (comE x = comH (saltE x) (payE x)) = b := ⟨_, rfl⟩
  rw [hcb] at HT ⊢
  have hr0 := HA0.out.r
  obtain ⟨sl, hsl⟩ : ∃ sl, saltE x = sl := ⟨_, rfl⟩
  obtain ⟨py, hpy⟩ : ∃ py, payE x = py := ⟨_, rfl⟩
  obtain ⟨rd, hrd⟩ : ∃ rd, redE x = rd := ⟨_, rfl⟩
  have HS := Aside0.mk HA0.out.sl
  have HPY := Aside0.mk HA0.out.py
  have HCC := Aside0.mk HA0.out.fc
  have HRD := Aside0.mk HA0.out.r
  rw [hsl] at HS HT ⊢
  rw [hpy] at HPY HT ⊢
  rw [hrd] at HRD ⊢
  obtain ⟨rs, hrs⟩ : ∃ b, (if rd then decide (sl = 0) && decide (py = []) else cb) = b := ⟨_, rfl⟩
  rw [hrs]
  have HRS := Aside0.mk hrs
  clear hrs
  clear hC h hl hAA HA0 hcb hr0 hsl hpy hrd
  go_enter Try.func54, Try.ntmps54
  go_upto_region 1 with (fail)
  obtain ⟨w1, hw1⟩ : ∃ W, w.alloc (.cells AA 27) = W := ⟨_, rfl⟩
  rw [hw1] at HS HPY HCC HRD HB
  rw [show w.alloc (.cells AA 27) = w1 from hw1]
  clear hw1
  have h1 := HRD.out
  have h2 := HS.out
  have h3 := HPY.out
  cases rd with
  | true =>
    have hrs := HRS.out
    rw [if_pos rfl] at hrs
    by_cases hz : sl = 0
    · subst hz
      have hq : ((py.length : Int) == 0) = decide (py = []) := by
        rw [Bool.eq_iff_iff, beq_iff_eq, decide_eq_true_eq]
        cases py <;> simp <;> omega
      obtain ⟨pb, hpb⟩ : ∃ pb, decide (py = []) = pb := ⟨_, rfl⟩
      rw [hpb] at hq hrs
      subst hrs
      clear hpb
      go_wp2_with (fail)
      go_ret
      exact ⟨by simp, HB.out⟩
    · have hz1 : (sl == 0) = false := by simp [hz]
      rw [decide_eq_false hz, Bool.false_and] at hrs
      subst hrs
      clear hz
      go_wp2_with (fail)
      go_ret
      exact ⟨rfl, HB.out⟩
  | false =>
    have hrs := HRS.out
    rw [if_neg Bool.false_ne_true] at hrs
    subst hrs
    go_wp2_with ((with_reducible refine gate_dst (N := 15) rfl ?_); refine wpList_load_at rfl 23 (.tmp 14) rfl ⟨w.heap.size, 33, none⟩ rfl C _ HCC.out Try.underlying23 rfl HIC.out ?_)
    refine (HT.out _ HB.out).mono ?_
    rintro e w2 ⟨rfl, hb⟩
    have HB2 := Aside0.mk (below_step HB.out hb)
    clear hb h1 h2 h3
    go_wp2_with (fail)
    go_ret
    exact ⟨rfl, HB2.out⟩
end Go.Proofs.Ytfpkgdenohcglaa.Chn
/- Head; the document's right. -/
namespace Go.Proofs.Ytfpkgdenohcglaa.Chn
set_option linter.unusedVariables false
set_option linter.unusedSimpArgs false
open Go.RowKit Go.Proofs.Ytfpkgdenohcglaa.Base Go.Proofs.Ytfpkgdenohcglaa.TlvPlain Go.Proofs.Ytfpkgdenohcglaa.ShaPlain Go.Proofs.Ytfpkgdenohcglaa.Sha Go.Proofs.Ytfpkgdenohcglaa.Com Go.Proofs.Ytfpkgdenohcglaa.Aid Go.Proofs.YtfpkgdenohcglaaW.PrintWords Go.Proofs.YtfpkgdenohcglaaW.PrintLast Go.Proofs.YtfpkgdenohcglaaW.PrintMore
/-- A zero entry's cells. -/
def zE : List Value := cellsE 0 (nums .u8 Z) (nums .u8 Z) 0 none 0 0 false
theorem zE_z : zE.toArray = Try.zeroCells27 := rfl
theorem zE_len : zE.length = 68 := by unfold zE cellsE; simp [nums, Z_len]
theorem headT_last (l : List Ent) (n : Nat) (h : l.length = n + 1) : headT l = linkT (l[n]'(by omega)) := by
  have h1 := take_snoc l n (by omega)
  rw [List.take_of_length_le (by omega)] at h1
  conv => lhs; rw [h1]
  exact headT_snoc _ _
set_option maxHeartbeats 4000000 in
set_option maxRecDepth 100000 in
theorem head_nil (A : Option Addr) (c : Nat) (w : World) : Calls Try.prog 22 #[.slice A 0 c] w (Ret w Z) := by
  have HZ := Aside0.mk (show (w.alloc (.cells Z32 23)).heap[w.heap.size]? = some (.cells Z32 23 (0, 0)) from blk_new _ _)
  have HB := Aside0.mk (below_alloc (Below.refl w.heap.size w) (.cells Z32 23))
  have HIF := Aside0.mk (show (Try.prog.info? 23).map (·.size) = some Z32.size from info_32)
  have HON := Aside0.mk (show Z32.all (·.oneCell') = true from nums_one _ _)
  show Calls _ _ _ _ (fun e w' => e = .returned (.agg Z32) ∧ Below w.heap.size w w')
  go_enter Try.func22, Try.ntmps22
  go_wp2_with ((with_reducible refine gate_store (t := 23) (p := 2) (v := .tmp 6) rfl ?_); refine wpList_store_row rfl 23 (.tmp 2) (.tmp 6) rfl w.heap.size Z32 rfl rfl 23 Z32 HZ.out HIF.out rfl HON.out ?_)
  have HSR := setRow_heap (w.alloc (.cells Z32 23)) w.heap.size Z32 Z32 _ _ HZ.out
  refine bodyPost_ret (v := .agg Z32) (results_cell_row rfl _ _ w.heap.size 23 Z32 (0, 0) _ rfl HSR Try.underlying23 rfl HIF.out) rfl ⟨rfl, below_setRow HB.out (Nat.le_refl _) Z32⟩
set_option maxHeartbeats 4000000 in
set_option maxRecDepth 100000 in
theorem head_cons (l : List Ent) (n : Nat) (hl : l.length = n + 1) (hm : n ≤ 1000000) (hu : Lu' l) (A : Option Addr) (c : Nat) (w : World) (hr : Re w A l) :
    Calls Try.prog 22 #[.slice A (n + 1) c] w (Ret w (headT l)) := by
  obtain ⟨ad, P, C, B, cb, rfl, hat, hC⟩ := re_at hr n (by omega)
  have hE := hu _ (List.getElem_mem (show n < l.length by omega))
  obtain ⟨x, hx⟩ : ∃ x, l[n]'(by omega) = x := ⟨_, rfl⟩
  rw [headT_last l n hl, hx]
  rw [hx] at hat hC hE
  obtain ⟨D, hD⟩ := sumC (linkT x) (linkT_len x)
  have HD := Aside0.mk hD
  have HIE := Aside0.mk hC.info
  have q1 : (n : Int) ≤ 1000000 := by omega
  have q2 : (n : Int) < (n : Int) + 1 := by omega
  have q3 : (((n + 1 : Nat) : Int) == 0) = false := by simp; omega
  have q4 : ((n : Int) + 1 == 0) = false := by simp; omega
  have HZ := Aside0.mk (show (w.alloc (.cells Z32 23)).heap[w.heap.size]? = some (.cells Z32 23 (0, 0)) from blk_new _ _)
  have HB := Aside0.mk (below_alloc (Below.refl w.heap.size w) (.cells Z32 23))
  have HAT := Aside0.mk (hat.below HB.out)
  have HT := Aside0.mk (fun W hW => link1_c x hE P C B cb W (hC.below hW))
  unfold Ret at HT ⊢
  rw [hD.v] at HT ⊢
  obtain ⟨cs, hcs⟩ : ∃ cs, cE x P C B cb = cs := ⟨_, rfl⟩
  rw [hcs] at HT HAT HIE
  clear hat hC hE hx hD hl hm hu hr hcs
  go_enter Try.func22, Try.ntmps22
  go_wp2_with ((with_reducible refine gate_dst (N := 12) rfl ?_); refine wpList_load_at rfl 27 (.tmp 11) rfl (ad.add (n * 68)) rfl cs _ HAT.out Try.underlying27 rfl HIE.out ?_)
  refine (HT.out _ HB.out).mono ?_
  rintro e w2 ⟨rfl, hb⟩
  have HZ2 := Aside0.mk (blk_below HZ.out hb)
  have HB2 := Aside0.mk (below_step HB.out hb)
  clear hb
  go_wp2_with ((with_reducible refine gate_store (t := 23) (p := 2) (v := .tmp 13) rfl ?_); refine wpList_store_row rfl 23 (.tmp 2) (.tmp 13) rfl w.heap.size D.toArray rfl rfl 23 Z32 HZ2.out HD.out.blkA HD.out.zsA HD.out.oneA ?_)
  have HSR := setRow_heap w2 w.heap.size Z32 D.toArray _ _ HZ2.out
  refine bodyPost_ret (v := .agg D.toArray) (results_cell_row rfl _ _ w.heap.size 23 D.toArray (0, 0) _ rfl HSR Try.underlying23 rfl HD.out.blkA) rfl ⟨rfl, below_setRow HB2.out (Nat.le_refl _) D.toArray⟩
theorem head_c (l : List Ent) (n : Nat) (hl : l.length = n) (hm : n ≤ 1000000) (hu : Lu' l) (A : Option Addr) (c : Nat) (w : World) (hr : Re w A l) :
    Calls Try.prog 22 #[.slice A n c] w (Ret w (headT l)) := by
  cases n with
  | zero =>
    rw [List.length_eq_zero_iff.1 hl]
    exact head_nil A c w
  | succ n => exact head_cons l n hl (by omega) hu A c w hr
end Go.Proofs.Ytfpkgdenohcglaa.Chn
/- chain.Verify. -/
namespace Go.Proofs.Ytfpkgdenohcglaa.Chn
set_option linter.unusedVariables false
set_option linter.unusedSimpArgs false
open Go.RowKit Go.Proofs.Ytfpkgdenohcglaa.Base Go.Proofs.Ytfpkgdenohcglaa.TlvPlain Go.Proofs.Ytfpkgdenohcglaa.ShaPlain Go.Proofs.Ytfpkgdenohcglaa.Sha Go.Proofs.Ytfpkgdenohcglaa.Com Go.Proofs.Ytfpkgdenohcglaa.Aid Go.Proofs.YtfpkgdenohcglaaW.PrintWords Go.Proofs.YtfpkgdenohcglaaW.PrintLast Go.Proofs.YtfpkgdenohcglaaW.PrintMore
abbrev RetIB (w : World) (r : Int × Bool) : Ending → World → Prop := fun e w' => e = .returned (.tuple #[.int .i64 r.1, .bool r.2]) ∧ Below w.heap.size w w'
theorem badT_drop (l : List Ent) (k : Nat) (hk : k < l.length) (d : Sm) : badT (l.drop k) k d = if okT k d l[k] then badT (l.drop (k + 1)) (k + 1) (linkT l[k]) else some k := by
  rw [List.drop_eq_getElem_cons hk]
  rfl
theorem verT_bad (l : List Ent) (hd : Sm) (N : Int) (k : Nat) (hk : k < l.length) (hv : badT l 0 Z = badT (l.drop k) k (headT (l.take k))) (ho : okT k (headT (l.take k)) l[k] = false) : verT l hd N = ((k : Int), false) := by
  unfold verT
  rw [hv, badT_drop l k hk, ho]
  rfl
theorem ver_next (l : List Ent) (k : Nat) (hk : k < l.length) (hv : badT l 0 Z = badT (l.drop k) k (headT (l.take k))) (ho : okT k (headT (l.take k)) l[k] = true) : badT l 0 Z = badT (l.drop (k + 1)) (k + 1) (headT (l.take (k + 1))) := by
  rw [hv, badT_drop l k hk, ho, headT_take l k hk]
  rfl
theorem verT_end (l : List Ent) (hd : Sm) (N : Int) (hv : badT l 0 Z = badT (l.drop l.length) l.length (headT (l.take l.length))) : verT l hd N = ((l.length : Int), decide ((l.length : Int) = N) && decide (headT l = hd)) := by
  unfold verT
  rw [hv, List.drop_length]
  rfl
/-- The world in the rounds. -/
structure VerI (w : World) (R : List Value) (l : List Ent) (k : Nat) (W : World) : Prop where
  h : W.heap[w.heap.size]? = some (.cells R.toArray 23 (0, 0))
  d : W.heap[w.heap.size + 1]? = some (.cells (nums .u8 (headT (l.take k))).toArray 23 (0, 0))
  v : badT l 0 Z = badT (l.drop k) k (headT (l.take k))
  b : Below w.heap.size w W
theorem VerI.below {w W W' : World} {R : List Value} {l : List Ent} {k : Nat} (h : VerI w R l k W) (hb : Below W.heap.size W W') : VerI w R l k W' := ⟨blk_below h.h hb, blk_below h.d hb, h.v, below_step h.b hb⟩
set_option maxHeartbeats 4000000 in
set_option maxRecDepth 100000 in
theorem verify_c (l : List Ent) (m : Nat) (hl : l.length = m) (hm : m ≤ 1000000) (hu : Lu' l) (hs : ∀ x ∈ l, (payE x).length ≤ 100000) (hd : Sm) (hdl : hd.length = 32) (N : Int) (A : Option Addr) (c : Nat) (w : World) (hr : Re w A l) :
    Calls Try.prog 17 #[.slice A m c, sumV hd, .int .i64 N] w (RetIB w (verT l hd N)) := by
  unfold RetIB
  obtain ⟨R, hR⟩ := sumC hd hdl
  rw [hR.v]
  have HR := Aside0.mk hR
  have HF := Aside0.mk (And.intro hl (And.intro hm (And.intro hu hs)))
  have HRE := Aside0.mk hr
  have H0 := Aside0.mk (show VerI w R l 0 ((w.alloc (.cells R.toArray 23)).alloc (.cells Z32 23)) from ⟨blk_alloc (blk_new _ _) _, second_new' _ _ _, by rw [List.take_zero, headT_nil, List.drop_zero], below_alloc (below_alloc (Below.refl _ _) _) _⟩)
  have q9 : (m : Int) ≤ 1000000 := by omega
  clear hR hl hm hu hs hdl hr
  go_enter Try.func17, Try.ntmps17
  go_wp2_with (fail)
  go_loopw [9, 10, 13] (fun _ _ i wx => ∃ k : Nat, k ≤ m ∧ i = .int .i64 k ∧ VerI w R l k wx) (fun _ _ i _ => m - (intOf i).toNat)
  case atStart => exact ⟨0, Nat.zero_le _, rfl, H0.out⟩
  case round =>
    clear H0
    obtain ⟨k, hk, rfl, hinv⟩ := hrel
    have HI := Aside0.mk hinv
    clear hinv
    obtain ⟨W, hwy⟩ : ∃ wy, wy = wr := ⟨_, rfl⟩
    subst hwy
    by_cases hlt : k < m
    · have hkl : k < l.length := by rw [HF.out.1]; exact hlt
      obtain ⟨ad, P, C, B, cb, rfl, hat, hC⟩ := re_at HRE.out k hkl
      have hE := HF.out.2.2.1 _ (List.getElem_mem hkl)
      have hpl := HF.out.2.2.2 _ (List.getElem_mem hkl)
      have HVB := Aside0.mk (fun ho => verT_bad l hd N k hkl HI.out.v ho)
      have HVN := Aside0.mk (fun ho => ver_next l k hkl HI.out.v ho)
      have HHT := Aside0.mk (headT_take l k hkl)
      obtain ⟨x, hx⟩ : ∃ x, l[k] = x := ⟨_, rfl⟩
      rw [hx] at hat hC hE hpl HVB HVN HHT
      obtain ⟨L, hL⟩ := sumC (linkT x) (linkT_len x)
      obtain ⟨D, hD⟩ := sumC (headT (l.take k)) (headT_len _)
      have HEQ := Aside0.mk (run_eq_sum (prevE x) (headT (l.take k)) hE.pl (headT_len _))
      rw [hC.fp.v, hD.v] at HEQ
      have HRT := Aside0.mk (fun W (hW : Below w.heap.size w W) => right1_c x hE hpl P C B cb W (hC.below hW))
      have HLT := Aside0.mk (fun W (hW : Below w.heap.size w W) => link1_c x hE P C B cb W (hC.below hW))
      unfold RetB at HRT
      unfold Ret at HLT
      rw [hL.v] at HLT
      have HIE := Aside0.mk hC.info
      have HIA := Aside0.mk (show (Try.prog.info? 27).map (·.size) = some (cE x P C B cb).toArray.size from by rw [List.size_toArray]; exact hC.info)
      have HOA := Aside0.mk hC.one
      have HSA := Aside0.mk (show zE.toArray.size = (cE x P C B cb).toArray.size from by rw [List.size_toArray, List.size_toArray, zE_len, hC.len])
      have HY := Aside0.mk (show (W.alloc (.cells zE.toArray 27)).heap[W.heap.size]? = some (.cells zE.toArray 27 (0, 0)) from blk_new _ _)
      have HSE := Aside0.mk (entAt_blk hC.fp.lenC hC.fc.lenC (setRow_heap (W.alloc (.cells zE.toArray 27)) W.heap.size zE.toArray (cE x P C B cb).toArray _ _ HY.out))
      have HCS := Aside0.mk (atC_blk (setRow_heap (W.alloc (.cells zE.toArray 27)) W.heap.size zE.toArray (cE x P C B cb).toArray _ _ HY.out))
      have HIP := Aside0.mk hC.fp.blk
      have HID := Aside0.mk hD.blk
      have HAT := Aside0.mk (hat.below HI.out.b)
      have HOK := Aside0.mk (show okT k (headT (l.take k)) x = (decide (seqE x = (k : Int)) && (decide (prevE x = headT (l.take k)) && rightT x)) from rfl)
      obtain ⟨cs, hcs⟩ : ∃ cs, cE x P C B cb = cs := ⟨_, rfl⟩
      rw [hcs] at HRT HLT HIE HIA HOA HSA HSE HCS HAT
      have HI1 := Aside0.mk (show VerI w R l k ((W.alloc (.cells zE.toArray 27)).setRow W.heap.size cs.toArray) from HI.out.below (below_setRow (below_alloc (Below.refl _ _) _) (Nat.le_refl _) _))
      obtain ⟨bb, hbb⟩ : ∃ bb, decide (prevE x = headT (l.take k)) = bb := ⟨_, rfl⟩
      obtain ⟨rb, hrb⟩ : ∃ rb, rightT x = rb := ⟨_, rfl⟩
      rw [hbb] at HEQ HOK
      rw [hrb] at HRT HOK
      have HD := Aside0.mk hD
      have HL := Aside0.mk hL
      have HK := Aside0.mk hlt
      have p0 : (0 : Int) ≤ (k : Int) := by omega
      have p1 : (k : Int) < (m : Int) := by omega
      have p2 : (k : Int) ≤ 1000000 := by omega
      clear hE hpl hC hat hx hL hD hcs hbb hrb hlt hk hkl
      go_upto_region 5 with (first
        | ((with_reducible refine gate_dst (N := 17) rfl ?_); refine wpList_load_at rfl 27 (.tmp 16) rfl (ad.add (k * 68)) rfl cs _ HAT.out Try.underlying27 rfl HIE.out ?_)
        | ((with_reducible refine gate_store (t := 27) (p := 10) (v := .tmp 17) rfl ?_); refine wpList_store_row rfl 27 (.tmp 10) (.tmp 17) rfl W.heap.size cs.toArray rfl rfl 27 zE.toArray HY.out HIA.out HSA.out HOA.out ?_))
      obtain ⟨w1, hw1⟩ : ∃ V, (W.alloc (.cells zE.toArray 27)).setRow W.heap.size cs.toArray = V := ⟨_, rfl⟩
      rw [hw1] at HSE HI1 HCS
      rw [show (W.alloc (.cells Try.zeroCells27 27)).setRow W.heap.size cs.toArray = w1 from hw1]
      clear hw1 HY HAT HI
      obtain ⟨g, hg⟩ : ∃ g, W.heap.size = g := ⟨_, rfl⟩
      rw [hg] at HSE HCS ⊢
      clear hg
      have HAP := Aside0.mk HSE.out.fp
      have HBD := Aside0.mk (show w1.heap[w.heap.size + 1]? = some (.cells D.toArray 23 (0, 0)) from by rw [← HD.out.eq]; exact HI1.out.d)
      have hs0 := HSE.out.s
      clear HSE
      obtain ⟨sq, hsq⟩ : ∃ sq, seqE x = sq := ⟨_, rfl⟩
      rw [hsq] at hs0 HOK
      clear hsq
      have hguard := guard_32
      by_cases hsk : sq = (k : Int)
      · subst hsk
        have q0 : ((k : Int) != (k : Int)) = false := by simp
        have heq := HEQ.out
        cases bb with
        | false =>
          go_wp2_with (first
            | ((with_reducible refine gate_dst (N := 24) rfl ?_); (try (refine gate_guard (by rfl) ?_; dsimp only)); refine wpList_load_at rfl 23 (.tmp 23) rfl ⟨g, 1, none⟩ rfl P _ HAP.out Try.underlying23 rfl HIP.out ?_)
            | ((with_reducible refine gate_dst (N := 25) rfl ?_); (try (refine gate_guard (by rfl) ?_; dsimp only)); refine wpList_load_at rfl 23 (.tmp 8) rfl ⟨w.heap.size + 1, 0, none⟩ rfl D _ (atC_blk HBD.out) Try.underlying23 rfl HID.out ?_))
          go_ret2
          exact ⟨by rw [HVB.out (by rw [HOK.out]; simp)]; first | done | rfl, HI1.out.b⟩
        | true =>
          cases rb with
          | false =>
            go_wp2_with (first
              | ((with_reducible refine gate_dst (N := 24) rfl ?_); (try (refine gate_guard (by rfl) ?_; dsimp only)); refine wpList_load_at rfl 23 (.tmp 23) rfl ⟨g, 1, none⟩ rfl P _ HAP.out Try.underlying23 rfl HIP.out ?_)
              | ((with_reducible refine gate_dst (N := 25) rfl ?_); (try (refine gate_guard (by rfl) ?_; dsimp only)); refine wpList_load_at rfl 23 (.tmp 8) rfl ⟨w.heap.size + 1, 0, none⟩ rfl D _ (atC_blk HBD.out) Try.underlying23 rfl HID.out ?_)
              | ((with_reducible refine gate_dst (N := 29) rfl ?_); (try (refine gate_guard (by rfl) ?_; dsimp only)); refine wpList_load_at rfl 27 (.tmp 10) rfl ⟨g, 0, none⟩ rfl cs _ HCS.out Try.underlying27 rfl HIE.out ?_)
              | (go_at_call 54; refine (HRT.out _ HI1.out.b).mono ?_; rintro e w2 ⟨rfl, hb⟩; have HI2 := Aside0.mk (HI1.out.below hb); clear hb))
            go_ret2
            exact ⟨by rw [HVB.out (by rw [HOK.out]; simp)]; first | done | rfl, HI2.out.b⟩
          | true =>
            have HVN2 := Aside0.mk (HVN.out (by rw [HOK.out]; simp))
            go_wp2_with (first
              | ((with_reducible refine gate_dst (N := 24) rfl ?_); (try (refine gate_guard (by rfl) ?_; dsimp only)); refine wpList_load_at rfl 23 (.tmp 23) rfl ⟨g, 1, none⟩ rfl P _ HAP.out Try.underlying23 rfl HIP.out ?_)
              | ((with_reducible refine gate_dst (N := 25) rfl ?_); (try (refine gate_guard (by rfl) ?_; dsimp only)); refine wpList_load_at rfl 23 (.tmp 8) rfl ⟨w.heap.size + 1, 0, none⟩ rfl D _ (atC_blk HBD.out) Try.underlying23 rfl HID.out ?_)
              | ((with_reducible refine gate_dst (N := 29) rfl ?_); (try (refine gate_guard (by rfl) ?_; dsimp only)); refine wpList_load_at rfl 27 (.tmp 10) rfl ⟨g, 0, none⟩ rfl cs _ HCS.out Try.underlying27 rfl HIE.out ?_)
              | (go_at_call 54; refine (HRT.out _ HI1.out.b).mono ?_; rintro e w2 ⟨rfl, hb⟩; have HI2 := Aside0.mk (HI1.out.below hb); have HCS2 := Aside0.mk (HCS.out.below hb); have HBD2 := Aside0.mk (blk_below HBD.out hb); clear hb)
              | ((with_reducible refine gate_dst (N := 34) rfl ?_); refine wpList_load_at rfl 27 (.tmp 10) rfl ⟨g, 0, none⟩ rfl cs _ HCS2.out Try.underlying27 rfl HIE.out ?_)
              | (go_at_call 55; refine (HLT.out _ HI2.out.b).mono ?_; rintro e w3 ⟨rfl, hb⟩; have HI3 := Aside0.mk (HI2.out.below hb); have HBD3 := Aside0.mk (blk_below HBD2.out hb); clear hb)
              | ((with_reducible refine gate_store (t := 23) (p := 8) (v := .tmp 35) rfl ?_); refine wpList_store_row rfl 23 (.tmp 8) (.tmp 35) rfl (w.heap.size + 1) L.toArray rfl rfl 23 D.toArray HBD3.out HL.out.blkA (by rw [List.size_toArray, List.size_toArray, HD.out.lenC, HL.out.lenC]) HL.out.oneA ?_))
            have HF2 := Aside0.mk (show VerI w R l (k + 1) (w3.setRow (w.heap.size + 1) L.toArray) from
              ⟨(setRow_other _ _ _ L.toArray (by omega)).trans HI3.out.h, by rw [HHT.out, HL.out.eq]; exact setRow_heap _ _ D.toArray L.toArray _ _ HBD3.out, HVN2.out, below_setRow HI3.out.b (Nat.le_succ _) _⟩)
            go_roundw
            case rel => exact ⟨k + 1, by have := HK.out; omega, by go_num, HF2.out⟩
            case measure => have := HK.out; simp [intOf]; omega
      · have q0 : (sq != (k : Int)) = true := by simp [hsk]
        have HSK := Aside0.mk hsk
        clear hsk
        go_wp2_with (fail)
        go_ret2
        exact ⟨by rw [HVB.out (by rw [HOK.out, decide_eq_false HSK.out, Bool.false_and])]; first | done | rfl, HI1.out.b⟩
    · have hkm : k = m := by omega
      subst hkm
      have HVE := Aside0.mk (verT_end l hd N (by rw [HF.out.1]; exact HI.out.v))
      rw [HF.out.1] at HVE
      have htk : l.take k = l := List.take_of_length_le (by rw [HF.out.1]; exact Nat.le_refl _)
      obtain ⟨D, hD⟩ := sumC (headT l) (headT_len _)
      have HEQ := Aside0.mk (run_eq_sum (headT l) hd (headT_len _) HR.out.len)
      rw [hD.v, HR.out.v] at HEQ
      have HAD := Aside0.mk (show AtC W ⟨w.heap.size + 1, 0, none⟩ D from atC_blk (by rw [← hD.eq, ← htk]; have h := HI.out.d; rw [htk] at h ⊢; exact h))
      have HAR := Aside0.mk (show AtC W ⟨w.heap.size, 0, none⟩ R from atC_blk HI.out.h)
      have HID := Aside0.mk hD.blk
      have HIR := Aside0.mk HR.out.blk
      have HB := Aside0.mk HI.out.b
      obtain ⟨bb, hbb⟩ : ∃ bb, decide (headT l = hd) = bb := ⟨_, rfl⟩
      rw [hbb] at HEQ HVE
      have hguard := guard_32
      have hu24 := Try.underlying23
      clear htk hD hbb hlt hk HI
      go_upto_region 9 with (fail)
      by_cases hN : (k : Int) = N
      · subst hN
        have q0 : ((k : Int) == (k : Int)) = true := by simp
        have heq := HEQ.out
        refine wp_region_held_drew (S := fun w' => AtC w' ⟨w.heap.size + 1, 0, none⟩ D ∧ AtC w' ⟨w.heap.size, 0, none⟩ R) (by kernel_rfl) (And.intro HAD.out HAR.out) (fun hHeld => ?_)
        (refine wpAnyH_take (i := 0) (v := ?_) rfl (by kernel_rfl) (by kernel_rfl) (by kernel_rfl) (fun _ _ _ h => h) (Or.inl ⟨by rfl, ?_⟩) (by assumption) ?_; (case' refine_2 => (intro w hSw; go_simp; try with_reducible rfl)); (try simp only [Act.put, List.getElem_toArray, List.getElem_cons_zero, List.getElem_cons_succ, List.setIfInBounds_toArray, List.set_cons_zero, List.set_cons_succ]))
        (refine wpAnyH_take (i := 1) (v := ?_) rfl (by kernel_rfl) (by kernel_rfl) (by kernel_rfl) (fun _ _ _ h => h) (Or.inl ⟨by rfl, ?_⟩) (by assumption) ?_; (case' refine_2 => (intro w hSw; go_simp; try with_reducible rfl)); (try simp only [Act.put, List.getElem_toArray, List.getElem_cons_zero, List.getElem_cons_succ, List.setIfInBounds_toArray, List.set_cons_zero, List.set_cons_succ]))
        (refine wpAnyH_take (i := 2) (v := ?_) rfl (by kernel_rfl) (by kernel_rfl) (by kernel_rfl) (fun _ _ _ h => h) (Or.inl ⟨by rfl, ?_⟩) (by assumption) ?_; (case' refine_2 => (intro w hSw; go_simp; try with_reducible rfl)); (try simp only [Act.put, List.getElem_toArray, List.getElem_cons_zero, List.getElem_cons_succ, List.setIfInBounds_toArray, List.set_cons_zero, List.set_cons_succ]))
        (refine wpAnyH_take (i := 3) (v := ?_) rfl (by kernel_rfl) (by kernel_rfl) (by kernel_rfl) (fun _ _ _ h => h) (Or.inl ⟨by rfl, ?_⟩) (by assumption) ?_; (case' refine_2 => (intro w hSw; go_simp; try with_reducible rfl)); (try simp only [Act.put, List.getElem_toArray, List.getElem_cons_zero, List.getElem_cons_succ, List.setIfInBounds_toArray, List.set_cons_zero, List.set_cons_succ]))
        (refine wpAnyH_take (i := 4) (v := ?_) rfl (by kernel_rfl) (by kernel_rfl) (by kernel_rfl) (fun _ _ _ h => h) (Or.inl ⟨by rfl, ?_⟩) (by assumption) ?_; (case' refine_2 => (intro w hSw; go_simp; try with_reducible rfl)); (try simp only [Act.put, List.getElem_toArray, List.getElem_cons_zero, List.getElem_cons_succ, List.setIfInBounds_toArray, List.set_cons_zero, List.set_cons_succ]))
        (refine wpAnyH_take (i := 5) (v := ?_) rfl (by kernel_rfl) (by kernel_rfl) (by kernel_rfl) (fun _ _ _ h => h) (Or.inl ⟨by rfl, ?_⟩) (by assumption) ?_; (case' refine_2 => (intro w hSw; go_simp; try with_reducible rfl)); (try simp only [Act.put, List.getElem_toArray, List.getElem_cons_zero, List.getElem_cons_succ, List.setIfInBounds_toArray, List.set_cons_zero, List.set_cons_succ]))
        (refine wpAnyH_take (i := 6) (v := ?_) rfl (by kernel_rfl) (by kernel_rfl) (by kernel_rfl) (fun _ _ _ h => h) (Or.inl ⟨by rfl, ?_⟩) (by assumption) ?_; (case' refine_2 => (intro w hSw; go_simp; try with_reducible rfl)); (try simp only [Act.put, List.getElem_toArray, List.getElem_cons_zero, List.getElem_cons_succ, List.setIfInBounds_toArray, List.set_cons_zero, List.set_cons_succ]))
        (refine wpAnyH_take (i := 7) rfl (by kernel_rfl) (by kernel_rfl) (by kernel_rfl) (fun _ _ _ h => h) (yieldsIf_load_at (by rfl) _ _ rfl ⟨w.heap.size + 1, 0, none⟩ rfl D _ (fun _ h => h.1) (by assumption) rfl HID.out) (by assumption) ?_; (try simp only [Act.put, List.getElem_toArray, List.getElem_cons_zero, List.getElem_cons_succ, List.setIfInBounds_toArray, List.set_cons_zero, List.set_cons_succ]))
        (refine wpAnyH_take (i := 8) rfl (by kernel_rfl) (by kernel_rfl) (by kernel_rfl) (fun _ _ _ h => h) (yieldsIf_load_at (by rfl) _ _ rfl ⟨w.heap.size, 0, none⟩ rfl R _ (fun _ h => h.2) (by assumption) rfl HIR.out) (by assumption) ?_; (try simp only [Act.put, List.getElem_toArray, List.getElem_cons_zero, List.getElem_cons_succ, List.setIfInBounds_toArray, List.set_cons_zero, List.set_cons_succ]))
        (refine wpAnyH_take (i := 9) (v := ?_) rfl (by kernel_rfl) (by kernel_rfl) (by kernel_rfl) (fun _ _ _ h => h) (Or.inl ⟨by rfl, ?_⟩) (by assumption) ?_; (case' refine_2 => (intro w hSw; go_simp; try with_reducible rfl)); (try simp only [Act.put, List.getElem_toArray, List.getElem_cons_zero, List.getElem_cons_succ, List.setIfInBounds_toArray, List.set_cons_zero, List.set_cons_succ]))
        (refine wpAnyH_take (i := 10) (v := ?_) rfl (by kernel_rfl) (by kernel_rfl) (by kernel_rfl) (fun _ _ _ h => h) (Or.inl ⟨by rfl, ?_⟩) (by assumption) ?_; (case' refine_2 => (intro w hSw; go_simp; try with_reducible rfl)); (try simp only [Act.put, List.getElem_toArray, List.getElem_cons_zero, List.getElem_cons_succ, List.setIfInBounds_toArray, List.set_cons_zero, List.set_cons_succ]))
        (refine wpAnyH_take (i := 11) (v := ?_) rfl (by kernel_rfl) (by kernel_rfl) (by kernel_rfl) (fun _ _ _ h => h) (Or.inl ⟨by rfl, ?_⟩) (by assumption) ?_; (case' refine_2 => (intro w hSw; go_simp; try with_reducible rfl)); (try simp only [Act.put, List.getElem_toArray, List.getElem_cons_zero, List.getElem_cons_succ, List.setIfInBounds_toArray, List.set_cons_zero, List.set_cons_succ]))
        (refine wpAnyH_take (i := 12) (v := ?_) rfl (by kernel_rfl) (by kernel_rfl) (by kernel_rfl) (fun _ _ _ h => h) (Or.inl ⟨by rfl, ?_⟩) (by assumption) ?_; (case' refine_2 => (intro w hSw; go_simp; try with_reducible rfl)); (try simp only [Act.put, List.getElem_toArray, List.getElem_cons_zero, List.getElem_cons_succ, List.setIfInBounds_toArray, List.set_cons_zero, List.set_cons_succ]))
        refine wpAnyH_done (by kernel_rfl) ?_ _
        have HB2 := Aside0.mk (below_drew1 HB.out)
        clear heq
        go_wp2_with (fail)
        go_ret2
        exact ⟨by rw [HVE.out]; simp, HB2.out⟩
      · have q0 : ((k : Int) == N) = false := by simp [hN]
        have HN := Aside0.mk hN
        clear hN
        refine wp_region_held_drew (S := fun w' => True) (by kernel_rfl) trivial (fun hHeld => ?_)
        (refine wpAnyH_take (i := 0) (v := ?_) rfl (by kernel_rfl) (by kernel_rfl) (by kernel_rfl) (fun _ _ _ h => h) (Or.inl ⟨by rfl, ?_⟩) (by assumption) ?_; (case' refine_2 => (intro w hSw; go_simp; try with_reducible rfl)); (try simp only [Act.put, List.getElem_toArray, List.getElem_cons_zero, List.getElem_cons_succ, List.setIfInBounds_toArray, List.set_cons_zero, List.set_cons_succ]))
        (refine wpAnyH_take (i := 1) (v := ?_) rfl (by kernel_rfl) (by kernel_rfl) (by kernel_rfl) (fun _ _ _ h => h) (Or.inl ⟨by rfl, ?_⟩) (by assumption) ?_; (case' refine_2 => (intro w hSw; go_simp; try with_reducible rfl)); (try simp only [Act.put, List.getElem_toArray, List.getElem_cons_zero, List.getElem_cons_succ, List.setIfInBounds_toArray, List.set_cons_zero, List.set_cons_succ]))
        (refine wpAnyH_take (i := 2) (v := ?_) rfl (by kernel_rfl) (by kernel_rfl) (by kernel_rfl) (fun _ _ _ h => h) (Or.inl ⟨by rfl, ?_⟩) (by assumption) ?_; (case' refine_2 => (intro w hSw; go_simp; try with_reducible rfl)); (try simp only [Act.put, List.getElem_toArray, List.getElem_cons_zero, List.getElem_cons_succ, List.setIfInBounds_toArray, List.set_cons_zero, List.set_cons_succ]))
        (refine wpAnyH_take (i := 3) (v := ?_) rfl (by kernel_rfl) (by kernel_rfl) (by kernel_rfl) (fun _ _ _ h => h) (Or.inl ⟨by rfl, ?_⟩) (by assumption) ?_; (case' refine_2 => (intro w hSw; go_simp; try with_reducible rfl)); (try simp only [Act.put, List.getElem_toArray, List.getElem_cons_zero, List.getElem_cons_succ, List.setIfInBounds_toArray, List.set_cons_zero, List.set_cons_succ]))
        (refine wpAnyH_take (i := 4) (v := ?_) rfl (by kernel_rfl) (by kernel_rfl) (by kernel_rfl) (fun _ _ _ h => h) (Or.inl ⟨by rfl, ?_⟩) (by assumption) ?_; (case' refine_2 => (intro w hSw; go_simp; try with_reducible rfl)); (try simp only [Act.put, List.getElem_toArray, List.getElem_cons_zero, List.getElem_cons_succ, List.setIfInBounds_toArray, List.set_cons_zero, List.set_cons_succ]))
        (refine wpAnyH_take (i := 5) (v := ?_) rfl (by kernel_rfl) (by kernel_rfl) (by kernel_rfl) (fun _ _ _ h => h) (Or.inl ⟨by rfl, ?_⟩) (by assumption) ?_; (case' refine_2 => (intro w hSw; go_simp; try with_reducible rfl)); (try simp only [Act.put, List.getElem_toArray, List.getElem_cons_zero, List.getElem_cons_succ, List.setIfInBounds_toArray, List.set_cons_zero, List.set_cons_succ]))
        (refine wpAnyH_take (i := 6) (v := ?_) rfl (by kernel_rfl) (by kernel_rfl) (by kernel_rfl) (fun _ _ _ h => h) (Or.inl ⟨by rfl, ?_⟩) (by assumption) ?_; (case' refine_2 => (intro w hSw; go_simp; try with_reducible rfl)); (try simp only [Act.put, List.getElem_toArray, List.getElem_cons_zero, List.getElem_cons_succ, List.setIfInBounds_toArray, List.set_cons_zero, List.set_cons_succ]))
        (refine wpAnyH_take (i := 7) (v := undef) rfl (by kernel_rfl) (by kernel_rfl) (by kernel_rfl) (fun _ _ _ h => h) (Or.inr ⟨by rfl, rfl⟩) (by assumption) ?_; (try simp only [Act.put, List.getElem_toArray, List.getElem_cons_zero, List.getElem_cons_succ, List.setIfInBounds_toArray, List.set_cons_zero, List.set_cons_succ]))
        (refine wpAnyH_take (i := 8) (v := undef) rfl (by kernel_rfl) (by kernel_rfl) (by kernel_rfl) (fun _ _ _ h => h) (Or.inr ⟨by rfl, rfl⟩) (by assumption) ?_; (try simp only [Act.put, List.getElem_toArray, List.getElem_cons_zero, List.getElem_cons_succ, List.setIfInBounds_toArray, List.set_cons_zero, List.set_cons_succ]))
        (refine wpAnyH_take (i := 9) (v := undef) rfl (by kernel_rfl) (by kernel_rfl) (by kernel_rfl) (fun _ _ _ h => h) (Or.inr ⟨by rfl, rfl⟩) (by assumption) ?_; (try simp only [Act.put, List.getElem_toArray, List.getElem_cons_zero, List.getElem_cons_succ, List.setIfInBounds_toArray, List.set_cons_zero, List.set_cons_succ]))
        (refine wpAnyH_take (i := 10) (v := ?_) rfl (by kernel_rfl) (by kernel_rfl) (by kernel_rfl) (fun _ _ _ h => h) (Or.inl ⟨by rfl, ?_⟩) (by assumption) ?_; (case' refine_2 => (intro w hSw; go_simp; try with_reducible rfl)); (try simp only [Act.put, List.getElem_toArray, List.getElem_cons_zero, List.getElem_cons_succ, List.setIfInBounds_toArray, List.set_cons_zero, List.set_cons_succ]))
        (refine wpAnyH_take (i := 11) (v := ?_) rfl (by kernel_rfl) (by kernel_rfl) (by kernel_rfl) (fun _ _ _ h => h) (Or.inl ⟨by rfl, ?_⟩) (by assumption) ?_; (case' refine_2 => (intro w hSw; go_simp; try with_reducible rfl)); (try simp only [Act.put, List.getElem_toArray, List.getElem_cons_zero, List.getElem_cons_succ, List.setIfInBounds_toArray, List.set_cons_zero, List.set_cons_succ]))
        (refine wpAnyH_take (i := 12) (v := ?_) rfl (by kernel_rfl) (by kernel_rfl) (by kernel_rfl) (fun _ _ _ h => h) (Or.inl ⟨by rfl, ?_⟩) (by assumption) ?_; (case' refine_2 => (intro w hSw; go_simp; try with_reducible rfl)); (try simp only [Act.put, List.getElem_toArray, List.getElem_cons_zero, List.getElem_cons_succ, List.setIfInBounds_toArray, List.set_cons_zero, List.set_cons_succ]))
        refine wpAnyH_done (by kernel_rfl) ?_ _
        have HB2 := Aside0.mk (below_drew1 HB.out)
        go_wp2_with (fail)
        go_ret2
        exact ⟨by rw [HVE.out, decide_eq_false HN.out, Bool.false_and]; first | done | rfl, HB2.out⟩
end Go.Proofs.Ytfpkgdenohcglaa.Chn
/- The document's right and Verify. -/
namespace Go.Proofs.Ytfpkgdenohcglaa.Chn
set_option linter.unusedVariables false
set_option linter.unusedSimpArgs false
open Go.RowKit Go.Proofs.Ytfpkgdenohcglaa.Base Go.Proofs.Ytfpkgdenohcglaa.TlvPlain Go.Proofs.Ytfpkgdenohcglaa.ShaPlain Go.Proofs.Ytfpkgdenohcglaa.Sha Go.Proofs.Ytfpkgdenohcglaa.Com Go.Proofs.Ytfpkgdenohcglaa.Aid Go.Proofs.YtfpkgdenohcglaaW.PrintWords Go.Proofs.YtfpkgdenohcglaaW.PrintLast Go.Proofs.YtfpkgdenohcglaaW.PrintMore
theorem Re.take {w : World} {A : Option Addr} {l : List Ent} (h : Re w A l) {k : Nat} (hk : k ≤ l.length) : Re w A (l.take k) := Kd.C_take h hk
theorem Lu'.take {l : List Ent} (h : Lu' l) (k : Nat) : Lu' (l.take k) := fun x hx => h x (List.mem_of_mem_take hx)
end Go.Proofs.Ytfpkgdenohcglaa.Chn
/- Rows of entries of one's own: their cells alone are owned; what they lead to is only read. -/
namespace Go.Proofs.Ytfpkgdenohcglaa.Chn
set_option linter.unusedVariables false
set_option linter.unusedSimpArgs false
open Go.RowKit Go.Proofs.Ytfpkgdenohcglaa.Base Go.Proofs.Ytfpkgdenohcglaa.TlvPlain Go.Proofs.Ytfpkgdenohcglaa.ShaPlain Go.Proofs.Ytfpkgdenohcglaa.Sha Go.Proofs.Ytfpkgdenohcglaa.Com Go.Proofs.Ytfpkgdenohcglaa.Aid Go.Proofs.YtfpkgdenohcglaaW.PrintWords Go.Proofs.YtfpkgdenohcglaaW.PrintLast Go.Proofs.YtfpkgdenohcglaaW.PrintMore
abbrev KW : Kd (List Value) := Kd.raw 68
abbrev RawOk (x cs : List Value) : Prop := cs = x ∧ cs.length = 68 ∧ ∀ u ∈ cs, u.oneCell' = true
theorem info_ent3 : (Try.prog.info? 27).map (fun i => (i.zero, i.size, i.bytes)) = some (some (.agg Try.zeroCells27), 68, 112) := by kernel_rfl
def Rw (w : World) (base : Nat) (v : Value) (l : List Ent) : Prop :=
  ∃ rows : List (List Value), rows.length = l.length ∧ KW.R 27 w base (fun _ => True) v rows ∧ ∀ (j : Nat) (x : Ent) (c : List Value), l[j]? = some x → rows[j]? = some c → DEnt.K w x c
theorem Rw.below {w w' : World} {base : Nat} {v : Value} {l : List Ent} (h : Rw w base v l) (hb : Below w.heap.size w w') : Rw w' base v l := by
  obtain ⟨rows, hl, hR, hK⟩ := h
  exact ⟨rows, hl, Kd.R_below hR hb, fun j x c hx hc => DEnt.K_below hb (hK j x c hx hc)⟩
theorem Rw.lower {w : World} {base base' : Nat} {v : Value} {l : List Ent} (h : Rw w base v l) (hb : base' ≤ base) : Rw w base' v l := by
  obtain ⟨rows, hl, hR, hK⟩ := h
  exact ⟨rows, hl, Kd.R_lower hR hb, hK⟩
theorem Rw.nil (w : World) (base : Nat) : Rw w base (.slice none 0 0) [] := ⟨[], rfl, Kd.R_nil _ _ _ _ _, fun j x c hx => by simp at hx⟩
theorem re_of_raw {w : World} {A : Option Addr} {l : List Ent} {rows : List (List Value)} (hl : rows.length = l.length) (hC : KW.C w A rows.length rows)
    (hK : ∀ (j : Nat) (x : Ent) (c : List Value), l[j]? = some x → rows[j]? = some c → DEnt.K w x c) : Re w A l := by
  rw [hl] at hC
  refine ⟨rfl, hC.2.1, fun hp => ?_⟩
  obtain ⟨ad, he, hcell⟩ := hC.2.2 hp
  refine ⟨ad, he, fun j p hj => ?_⟩
  have hjl : j < rows.length := by have := (List.getElem?_eq_some_iff.1 hj).1; omega
  obtain ⟨c', hcl, hk, hcc⟩ := hcell j _ (List.getElem?_eq_getElem hjl)
  have hq := hK j p _ hj (List.getElem?_eq_getElem hjl)
  refine ⟨c', hcl, ?_, hcc⟩
  rw [show c' = rows[j] from hk.1]
  exact hq
theorem Rw.reads {w : World} {base : Nat} {v : Value} {l : List Ent} (h : Rw w base v l) : ∃ A c, v = .slice A l.length c ∧ l.length ≤ c ∧ Re w A l := by
  obtain ⟨rows, hl, hR, hK⟩ := h
  obtain ⟨A, c, hv, hc, hC⟩ := Kd.R_reads hR
  exact ⟨A, c, by rw [hv, hl], by omega, re_of_raw hl hC hK⟩
theorem rows_of {w : World} {A : Option Addr} {l : List Ent} (h : Re w A l) :
    ∃ rows : List (List Value), rows.length = l.length ∧ ReadsRow RawOk 68 w A l.length rows ∧ ∀ (j : Nat) (x : Ent) (c : List Value), l[j]? = some x → rows[j]? = some c → DEnt.K w x c :=
  Kd.reads_raw h (fun x c hk => ⟨DEnt.K_len hk, DEnt.K_one hk⟩)
/-- A copy of entries: its cells lead to what came. -/
abbrev RetC (w : World) (l : List Ent) : Ending → World → Prop := fun e w' => ∃ (v : Value) (rows : List (List Value)), e = .returned v ∧ rows.length = l.length ∧ KW.R 27 w' w.heap.size (fun _ => True) v rows ∧ (∀ (j : Nat) (x : Ent) (c : List Value), l[j]? = some x → rows[j]? = some c → DEnt.K w x c) ∧ Below w.heap.size w w'
abbrev RetE (w : World) (l : List Ent) : Ending → World → Prop := fun e w' => ∃ v, e = .returned v ∧ Rw w' w.heap.size v l ∧ Below w.heap.size w w'
set_option maxHeartbeats 4000000 in
set_option maxRecDepth 100000 in
theorem eclone_c (l : List Ent) (m : Nat) (hl : l.length = m) (hm : m ≤ 100000) (A : Option Addr) (c : Nat) (hc : m ≤ c) (w : World) (hr : Re w A l) :
    Calls Try.prog 53 #[.slice A m c] w (RetC w l) := by
  unfold RetC
  have hq := fun (n c : Nat) => Lib.run_eql_slice_nil (P := Try.prog) w 22 27 A n c 0 0 Try.underlying22
  cases A with
  | none =>
    have hm0 : m = 0 := by
      rcases Nat.eq_zero_or_pos m with h | h
      · exact h
      · obtain ⟨ad, P, C, B, cb, h1, _⟩ := re_at hr 0 (by omega)
        cases h1
    subst hm0
    have hf : l = [] := List.length_eq_zero_iff.1 hl
    subst hf
    clear hl hm hc hr
    go_enter Try.func53, Try.ntmps53
    go_wp2_with (fail)
    go_ret
    exact ⟨_, [], rfl, rfl, Kd.R_nil _ _ _ _ _, fun j x c hx => by simp at hx, Below.refl _ _⟩
  | some ad =>
    obtain ⟨rows, hrl, hrr, hrk⟩ := rows_of hr
    have HR := Aside0.mk hrr
    have HL := Aside0.mk hl
    have HM := Aside0.mk hm
    have HRL := Aside0.mk hrl
    have HK := Aside0.mk hrk
    clear hl hm hc hr hrr hrl hrk
    go_enter Try.func53, Try.ntmps53
    have HB := Aside0.mk (Below.refl w.heap.size w)
    go_wp2_with (first
      | ((with_reducible refine gate_dst (N := 5) rfl ?_); refine Kd.R_lit KW _ 27 ?hg (N := 5) ?hd (xs := ([] : List (List Value))) (inner := []) (ok := fun _ => True) (okp := fun _ => True) ?hr ?hp (fun _ hk => hk) trivial (Below.refl _ _) (Nat.le_refl _) (by simp) ?_; (case hd => rfl); (case hg => rfl); (case hr => first | (go_simp; done) | (go_simp; rfl)); (case hp => exact (Reps.none _ _)); intro v255 w3 ho4 hb hg_ hnew_; clear hg_ hnew_; have n0_ := Aside0.mk (Kd.R_lower ho4 (below_size HB.out)); have n1_ := Aside0.mk (below_step HB.out hb); clear HB; have HO := n0_; have HB := n1_; clear n0_ n1_; clear hb ho4)
      | ((with_reducible refine gate_builtin (b := .append) (xs := #[.tmp 5, .tmp 6]) rfl ?_); at_builtin; refine Kd.R_append_rows KW (Rr := RawOk) (w0 := w) w.heap.size rfl (.tmp 5) (.tmp 6) 22 27 (.agg Try.zeroCells27) 112 rfl Try.underlying22 info_ent3 rfl (by decide) (by omega) v255 [] rows _ m c (fun _ => True) (fun _ => False) rfl rfl HO.out (by have h := ReadsRow.imp_ HR.out HB.out (fun _ _ hp => hp); rw [HL.out] at h; exact h) (fun _ _ h => h) (fun _ h => h.elim) (fun _ _ => trivial) HB.out (below_size HB.out) (by have := HM.out; simp; omega) ?_; intro v258 w5 ho hb hg hat; have n0_ := Aside0.mk (hb); have n1_ := Aside0.mk (ho); clear HB; clear HO; have HB := n0_; have HO := n1_; clear n0_ n1_; clear ho hb hg hat))
    go_ret
    exact ⟨_, rows, rfl, HRL.out, HO.out, HK.out, HB.out⟩
section
variable {ops : Array Oper} {rest : List Oper} {o : Oper} {a : Act} {Q : Exit → Act → World → Prop}
/-- make([]Entry, m, m + 1). -/
theorem wpList_make_e {w : World} (hgd : o.guard = none) (x y : Operand) (ho : o.op = .makeSlice 22 x y) (m : Nat) (hm : m ≤ 100000) (hx : a.eval x = .int .i64 m) (hy : a.eval y = .int .i64 ((m : Int) + 1))
    (h : ∀ zs : List Value, zs.length = (m + 1) * 68 → wpList Try.prog ops Q rest (a.put o.dst (.slice (some ⟨w.heap.size, 0, none⟩) m (m + 1))) (w.alloc (.cells zs.toArray 27))) : wpList Try.prog ops Q (o :: rest) a w := by
  obtain ⟨i, hi, hz, hs, hb⟩ := info_parts info_ent3
  have hrun := run_make (P := Try.prog) w 22 27 i (.agg Try.zeroCells27) Try.underlying22 hi hz .i64 .i64 (m : Int) ((m : Int) + 1) (by omega) (by omega) (by rw [hb]; omega) (by omega)
  rw [hs, Int.toNat_natCast, show ((m : Int) + 1).toNat = m + 1 by omega] at hrun
  refine wpList_plain hgd fun K hK => ?_
  have h2 := h (madeCells (Value.agg Try.zeroCells27).cells ((m + 1) * 68)).toList (by rw [Array.length_toList, size_madeCells])
  rw [Array.toArray_toList] at h2
  unfold Oper.wp execOp
  simp only [ho, hx, hy, hrun, Sem.run_bind, Result.andThen_ok]
  exact hK _ _ h2
theorem run_copy_e (w : World) (ty : TypeId) (g m dCap : Nat) (sd : Addr) (sCap : Nat) (cur : Array Value) (t : TypeId) (cs : List Value)
    (hg : w.heap[g]? = some (.cells cur t (0, 0))) (hn : cs.length = m * 68)
    (hsrc : ∀ j v, cs[j]? = some v → w.cell? (sd.add j) = some v) (hfit : cs.length ≤ cur.size) (h1 : ∀ v ∈ cs, v.oneCell' = true) :
    (Builtin.copy_ #[22, 22] ty #[.slice (some ⟨g, 0, none⟩) m dCap, .slice (some sd) m sCap]).run Try.prog w =
      .ok (goInt (m : Int)) (w.setRow g (cs ++ cur.toList.drop cs.length).toArray) := by
  have hl := run_loadCells_list (P := Try.prog) w sd cs hsrc
  have hst := run_storeCells_at Try.prog g 0 t cs 0 cur w hg (by simpa using hfit) h1
  obtain ⟨i, hi, hz, hs, hb⟩ := info_parts info_ent3
  rw [hn] at hl
  simp [Builtin.copy_, run_underlying Try.underlying22, Builtin.lenOf, Builtin.firstCells, sizeOf, typeInfo, hi, hs, hl, hst]
theorem run_copy_e0 (w : World) (ty : TypeId) (d s : Option Addr) (dCap sCap : Nat) :
    (Builtin.copy_ #[22, 22] ty #[.slice d 0 dCap, .slice s 0 sCap]).run Try.prog w = .ok (goInt 0) w := by
  have hl : ∀ (x : Addr), (loadCells x 0).run Try.prog w = .ok #[] w := fun x => by simpa using run_loadCells_list (P := Try.prog) w x [] (by simp)
  obtain ⟨i, hi, hz, hs, hb⟩ := info_parts info_ent3
  cases d <;> cases s <;> simp [Builtin.copy_, run_underlying Try.underlying22, Builtin.lenOf, Builtin.firstCells, sizeOf, typeInfo, hi, storeCells, hl]
/-- copy(out, l): out's cells, behind them what lay there. -/
theorem wpList_copy_e {w w0 : World} (hgd : o.guard = none) (d s : Operand) (ho : o.op = .call { callee := .builtin .copy, args := #[d, s], argTypes := #[22, 22] })
    (g m c : Nat) (A : Option Addr) (hd : a.eval d = .slice (some ⟨g, 0, none⟩) m (m + 1)) (hs : a.eval s = .slice A m c) (hm : m ≤ 100000)
    (cur : List Value) (hg : w.heap[g]? = some (.cells cur.toArray 27 (0, 0))) (hcur : cur.length = (m + 1) * 68) (rows : List (List Value)) (hrl : rows.length = m) (HR : ReadsRow RawOk 68 w A m rows)
    (base : Nat) (hbg : base ≤ g) (HB : Below base w0 w)
    (h : ∀ w', KW.R 27 w' base (fun _ => True) (.slice (some ⟨g, 0, none⟩) m (m + 1)) rows → Below base w0 w' → (∀ k, k ≠ g → w'.heap[k]? = w.heap[k]?) → wpList Try.prog ops Q rest (a.put o.dst (goInt (m : Int))) w') : wpList Try.prog ops Q (o :: rest) a w := by
  refine wpList_plain hgd fun K hK => ?_
  rcases Nat.eq_zero_or_pos m with h0 | hp
  · subst h0
    have hre : rows = [] := List.length_eq_zero_iff.1 hrl
    subst hre
    have hrun := run_copy_e0 w o.type (some ⟨g, 0, none⟩) A (0 + 1) c
    have h2 := h w ⟨fun _ _ => trivial, [], ⟨rfl, Or.inr ⟨g, 0 + 1, cur.toArray, rfl, hbg, hg, by show 0 ≤ 0 + 1; omega, by decide, by show cur.toArray.size = (0 + 1) * 68; simp [hcur], by show cur.toArray.toList.take (0 * 68) = []; simp⟩⟩, Reps.none _ _⟩ HB (fun _ _ => rfl)
    unfold Oper.wp execOp
    simp only [ho, resolve, invoke, builtin, Sem.run_bind, Sem.run_pure, Result.andThen_ok, List.map_toArray, List.map_cons, List.map_nil, hd, hs, hrun]
    exact hK _ _ h2
  · obtain ⟨sd, rfl, _⟩ := HR.2.2 hp
    obtain ⟨inner, hri, hci⟩ := ReadsRow.inner_ HR
    have hil : inner.length = m * 68 := by rw [hri.1, hrl]
    have hone : ∀ v ∈ inner, v.oneCell' = true := by
      intro v hv
      obtain ⟨j, hj, rfl⟩ := List.mem_iff_getElem.1 hv
      have hj2 : j / 68 < rows.length := by rw [hrl]; omega
      have hq := (hri.2 (j / 68) _ (List.getElem?_eq_getElem hj2)).2.2
      refine hq _ (List.mem_iff_getElem?.2 ⟨j % 68, ?_⟩)
      rw [List.getElem?_take, if_pos (Nat.mod_lt _ (by decide)), List.getElem?_drop, show j / 68 * 68 + j % 68 = j by omega]
      exact List.getElem?_eq_getElem hj
    have hrun := run_copy_e w o.type g m (m + 1) sd c cur.toArray 27 inner hg hil hci (by simp [hil, hcur]; omega) hone
    have hset := setRow_heap w g cur.toArray (inner ++ cur.toArray.toList.drop inner.length).toArray _ _ hg
    have h2 := h (w.setRow g (inner ++ cur.toArray.toList.drop inner.length).toArray)
      ⟨fun _ _ => trivial, inner, ⟨by rw [hil, hrl]; rfl, Or.inr ⟨g, m + 1, (inner ++ cur.toArray.toList.drop inner.length).toArray, by rw [hrl], hbg, hset, by omega, by simp [maxLen]; omega, by show (inner ++ cur.toArray.toList.drop inner.length).toArray.size = (m + 1) * 68; simp [hil, hcur]; omega, by show (inner ++ cur.toArray.toList.drop inner.length).toArray.toList.take (rows.length * 68) = inner; rw [hrl, ← hil]; simp⟩⟩, hri⟩
      (below_setRow HB hbg _) (fun k hk => setRow_other _ _ _ _ hk)
    unfold Oper.wp execOp
    simp only [ho, resolve, invoke, builtin, Sem.run_bind, Sem.run_pure, Result.andThen_ok, List.map_toArray, List.map_cons, List.map_nil, hd, hs, hrun]
    exact hK _ _ h2
end
end Go.Proofs.Ytfpkgdenohcglaa.Chn
/- Entries that are built. -/
namespace Go.Proofs.Ytfpkgdenohcglaa.Chn
set_option linter.unusedVariables false
set_option linter.unusedSimpArgs false
open Go.RowKit Go.Proofs.Ytfpkgdenohcglaa.Base Go.Proofs.Ytfpkgdenohcglaa.TlvPlain Go.Proofs.Ytfpkgdenohcglaa.ShaPlain Go.Proofs.Ytfpkgdenohcglaa.Sha Go.Proofs.Ytfpkgdenohcglaa.Com Go.Proofs.Ytfpkgdenohcglaa.Aid Go.Proofs.YtfpkgdenohcglaaW.PrintWords Go.Proofs.YtfpkgdenohcglaaW.PrintLast Go.Proofs.YtfpkgdenohcglaaW.PrintMore
theorem list32 (l : List Value) (h : l.length = 32) : l = (List.range 32).map (fun i => l.getD i undef) := by
  apply List.ext_getElem?
  intro i
  rw [List.getElem?_map]
  by_cases hi : i < 32
  · rw [List.getElem?_range hi, List.getElem?_eq_getElem (by omega)]
    simp [List.getD_eq_getElem?_getD, List.getElem?_eq_getElem (show i < l.length by omega)]
  · rw [List.getElem?_eq_none (by omega), List.getElem?_eq_none (by simp; omega)]
    rfl
theorem built_new (n sl : Int) (f g : Nat → Value) (A : Option Addr) (k c : Nat) :
    Try.prog.built 27 [(0, .int .i64 n), (1, .agg ((List.range 32).map f).toArray), (2, .agg ((List.range 32).map g).toArray), (3, .int .u64 sl), (4, .slice A k c)] =
      some (cellsE n ((List.range 32).map f) ((List.range 32).map g) sl A k c false).toArray := by kernel_rfl
theorem run_new (w : World) (n sl : Int) (P C : List Value) (hP : P.length = 32) (hC : C.length = 32) (A : Option Addr) (k c : Nat) :
    (Instr.build 27 #[(0, .int .i64 n), (1, .agg P.toArray), (2, .agg C.toArray), (3, .int .u64 sl), (4, .slice A k c)]).run Try.prog w = .ok (.agg (cellsE n P C sl A k c false).toArray) w := by
  refine run_build w _ _ _ ?_
  have h := built_new n sl (fun i => P.getD i undef) (fun i => C.getD i undef) A k c
  rw [← list32 P hP, ← list32 C hC] at h
  exact h
section
variable {ops : Array Oper} {rest : List Oper} {o : Oper} {a : Act} {Q : Exit → Act → World → Prop}
theorem wpList_new {w : World} (hgd : o.guard = none) (x0 x1 x2 x3 x4 : Operand) (ho : o.op = .build 27 #[(0, x0), (1, x1), (2, x2), (3, x3), (4, x4)]) (n sl : Int) (P C : List Value) (hP : P.length = 32) (hC : C.length = 32) (A : Option Addr) (k c : Nat)
    (h0 : a.eval x0 = .int .i64 n) (h1 : a.eval x1 = .agg P.toArray) (h2 : a.eval x2 = .agg C.toArray) (h3 : a.eval x3 = .int .u64 sl) (h4 : a.eval x4 = .slice A k c)
    (h : wpList Try.prog ops Q rest (a.put o.dst (.agg (cellsE n P C sl A k c false).toArray)) w) : wpList Try.prog ops Q (o :: rest) a w := by
  refine wpList_plain hgd fun K hK => ?_
  have hp : (#[((0 : Nat), x0), (1, x1), (2, x2), (3, x3), (4, x4)].map fun (i, y) => (i, a.eval y)) = #[(0, .int .i64 n), (1, .agg P.toArray), (2, .agg C.toArray), (3, .int .u64 sl), (4, .slice A k c)] := by simp [h0, h1, h2, h3, h4]
  unfold Oper.wp execOp
  simp only [ho, hp, Sem.run_bind, run_new w n sl P C hP hC A k c, Result.andThen_ok]
  exact hK _ _ h
/-- append(v, x)'s row of one entry. -/
theorem run_ent1 (w : World) (cs : List Value) (hc : cs.length = 68) : (Instr.buildSlice 22 1 #[(0, .agg cs.toArray)]).run Try.prog w = .ok (.slice (some ⟨w.heap.size, 0, none⟩) 1 1) (w.alloc (.cells cs.toArray 27)) := by
  obtain ⟨i, hi, hz, hs, hb⟩ := info_parts info_ent3
  have hf := Great.fill_whole (s := 68) (by decide) [Value.agg cs.toArray] ((Array.range (1 * 68)).map ((Value.agg Try.zeroCells27).cells[· % (Value.agg Try.zeroCells27).cells.size]!)) (fun v hv => by
    rw [List.mem_singleton.1 hv]; simp [Value.cells, hc]) (by simp)
  refine run_buildSlice w 22 27 1 _ _ i (.agg Try.zeroCells27) Try.underlying22 hi hz (by rw [hs]; decide) (by rw [hs]; decide) ?_
  rw [hs]
  refine Eq.trans ?_ (hf.trans ?_)
  · rfl
  · simp [Value.cells]
theorem wpList_ent1 {w : World} (hgd : o.guard = none) (x : Operand) (ho : o.op = .buildSlice 22 1 #[(0, x)]) (cs : List Value) (hx : a.eval x = .agg cs.toArray) (hc : cs.length = 68)
    (h : wpList Try.prog ops Q rest (a.put o.dst (.slice (some ⟨w.heap.size, 0, none⟩) 1 1)) (w.alloc (.cells cs.toArray 27))) : wpList Try.prog ops Q (o :: rest) a w := by
  refine wpList_plain hgd fun K hK => ?_
  have hp : (#[((0 : Nat), x)].map fun (i, y) => (i, a.eval y)) = #[(0, .agg cs.toArray)] := by simp [hx]
  unfold Oper.wp execOp
  simp only [ho, hp, Sem.run_bind, run_ent1 w cs hc, Result.andThen_ok]
  exact hK _ _ h
end
section
variable {o : Oper} {a : Act} {Q : Exit → Act → World → Prop} {K : Act → World → Prop}
end
/-- The new entry. -/
abbrev newE (l : List Ent) (salt : Int) (pay : List Int) : Ent := ((l.length : Int), headT l, comH salt pay, salt, pay, false)
/-- A row with one more entry, the row of cells grown by that entry's cells. -/
theorem Rw.snoc {w0 W w' : World} {base : Nat} {v : Value} {l : List Ent} {rows : List (List Value)} {x : Ent} {cs : List Value} (hl : rows.length = l.length) (hR : KW.R 27 w' base (fun _ => True) v (rows ++ [cs]))
    (h0 : ∀ (j : Nat) (x : Ent) (c : List Value), l[j]? = some x → rows[j]? = some c → DEnt.K w0 x c) (hb0 : Below w0.heap.size w0 w') (hx : DEnt.K W x cs) (hb : Below W.heap.size W w') : Rw w' base v (l ++ [x]) := by
  refine ⟨rows ++ [cs], by simp [hl], hR, fun j y c hy hc => ?_⟩
  rcases Nat.lt_or_ge j l.length with h | h
  · rw [List.getElem?_append_left h] at hy
    rw [List.getElem?_append_left (by omega)] at hc
    exact DEnt.K_below hb0 (h0 j y c hy hc)
  · rw [List.getElem?_append_right h] at hy
    rw [List.getElem?_append_right (by omega), hl] at hc
    rcases hk : j - l.length with _ | k
    · rw [hk] at hy hc
      simp only [List.getElem?_cons_zero, Option.some.injEq] at hy hc
      rw [← hy, ← hc]
      exact DEnt.K_below hb hx
    · rw [hk] at hy
      simp at hy
end Go.Proofs.Ytfpkgdenohcglaa.Chn
/- The walks of package tlv: what each of its functions does to memory. -/
namespace Go.Proofs.Ytfpkgdenohcglaa.Tlv
open Go.Proofs.Ytfpkgdenohcglaa.Base Go.Proofs.Ytfpkgdenohcglaa.TlvPlain Go.RowKit Go.Proofs.YtfpkgdenohcglaaW.PrintWords Go.Proofs.YtfpkgdenohcglaaW.PrintLast Go.Proofs.YtfpkgdenohcglaaW.PrintMore

/-- A cut of bytes, and in which block it lies. -/
theorem cut2 {P : Program} (t e : TypeId) (kl : IntKind) {i : TypeInfo} (ht : P.underlying t = some (.slice e)) (hi : P.info? e = some i) (hsz : i.size = 1) (A : Option Addr) (n c m : Nat) (hm : m ≤ n) :
    ∃ A' : Option Addr, (∀ W : World, (Instr.slice t (.slice A n c) (some (.int kl (m : Int))) none none).run P W = .ok (.slice A' (n - m) (c - m)) W) ∧
      (∀ (w : World) (k : IntKind) (xs : List Int), n ≤ c → ReadsInt w k A n xs → ReadsInt w k A' (n - m) (xs.drop m)) ∧ (∀ ad', A' = some ad' → ∃ ad, A = some ad ∧ ad'.block = ad.block) := by
  refine ⟨if c = m then A else A.map (·.add m), fun W => ?_, fun w k xs hc h => h.drop_ m hm hc, fun ad' h => ?_⟩
  · have hel : P.elem t = e := by simp [Program.elem, ht]
    have hu : P.underlying t = some (.slice (P.elem t)) := by rw [hel]; exact ht
    rw [run_slice_l W t A n c hu kl (m : Int) (Int.natCast_nonneg _) (by omega), hel]
    simp [sizeOf, typeInfo, hi, hsz, sliced, Result.andThen]
  · split at h
    · exact ⟨ad', h, rfl⟩
    · obtain ⟨ad, h1, rfl⟩ := Option.map_eq_some_iff.1 h
      exact ⟨ad, h1, by unfold Addr.add; split <;> rfl⟩
/-- A reader at block g: made, failed, and the bytes that are left. -/
def Rdr (w0 W : World) (g : Nat) (made failed : Bool) (bs : List Int) : Prop :=
  w0.heap.size ≤ g ∧ ∃ A c, W.heap[g]? = some (.cells #[.bool made, .bool failed, .slice A bs.length c] 115 (0, 0)) ∧ bs.length ≤ c ∧ Rb W A bs ∧ bs.length < 140737488355328 ∧ U8 bs ∧ ∀ ad, A = some ad → ad.block < g
theorem Rdr.lower {w0 w1 W : World} {g : Nat} {m f : Bool} {bs : List Int} (h : Rdr w1 W g m f bs) (hs : w0.heap.size ≤ w1.heap.size) : Rdr w0 W g m f bs := ⟨Nat.le_trans hs h.1, h.2⟩
theorem cells_no_int {m f : Bool} {A : Option Addr} {n c : Nat} (i : Nat) (v : Value) (h : (#[Value.bool m, .bool f, .slice A n c] : Array Value)[i]? = some v) (k : Int) : v ≠ .int .u8 k := by
  match i, h with
  | 0, h => cases h; simp
  | 1, h => cases h; simp
  | 2, h => cases h; simp
theorem Rdr.below {w0 W W1 : World} {g : Nat} {m f : Bool} {bs : List Int} (h : Rdr w0 W g m f bs) (hb : Below W.heap.size W W1) : Rdr w0 W1 g m f bs := by
  obtain ⟨h0, A, c, h1, h2, h3, h4⟩ := h
  exact ⟨h0, A, c, (hb.block g (blk_lt h1)).trans h1, h2, Kd.C_below h3 hb, h4⟩
/-- Where another block alone was written, in which no numbers lie. -/
theorem Rdr.keep {w0 W W1 : World} {g g' : Nat} {m f : Bool} {bs : List Int} (h : Rdr w0 W g m f bs) (hk : KeepBut W W1 g' none) (hne : g ≠ g') {T : Nat} {cs : Array Value} (hb : W.heap[g']? = some (.cells cs T (0, 0))) (hcs : ∀ i : Nat, ∀ v, cs[i]? = some v → ∀ n, v ≠ Value.int .u8 n) : Rdr w0 W1 g m f bs := by
  obtain ⟨h0, A, c, h1, h2, h3, h4⟩ := h
  exact ⟨h0, A, c, hk.blk h1 hne (by simp), h2, reads_keep h3 hk (reads_ne hb hcs h3), h4⟩
theorem Rdr.grown {w0 W W1 : World} {g : Nat} {m f : Bool} {bs : List Int} {row : Option Nat} (h : Rdr w0 W g m f bs) (hg : W.grownBy W1 row) (hr : ∀ b, row = some b → g < b) : Rdr w0 W1 g m f bs := by
  obtain ⟨h0, A, c, h1, h2, h3, h4⟩ := h
  have hne : some g ≠ row := fun e => Nat.lt_irrefl g (hr g e.symm)
  refine ⟨h0, A, c, blk_grown h1 hg hne, h2, ?_, h4⟩
  cases row with
  | none => exact reads_keep h3 (KeepBut.of_grown hg W.heap.size) (fun ad e _ => by have := h4.2.2 ad e; have := blk_lt h1; omega)
  | some q =>
    have hk : KeepBut W W1 q none := ⟨hg.size, fun i hi h1 _ => hg.block i hi (fun e => h1 (Option.some.inj e))⟩
    exact reads_keep h3 hk (fun ad e _ => by have := h4.2.2 ad e; have := hr q rfl; omega)
theorem Rdr.set {w0 W : World} {g : Nat} {m f : Bool} {bs : List Int} (h : Rdr w0 W g m f bs) (f' : Bool) : Rdr w0 (W.setCell ⟨g, 1, none⟩ (.bool f')) g m f' bs := by
  obtain ⟨h0, A, c, h1, h2, h3, h4⟩ := h
  exact ⟨h0, A, c, by simpa using blk_set h1 1 (.bool f'), h2, reads_keep h3 (keep_set _ _ _ _) (reads_ne h1 cells_no_int h3), h4⟩
theorem Rdr.cut {w0 W : World} {g : Nat} {m f : Bool} {bs cs : List Int} (h : Rdr w0 W g m f bs) {A' : Option Addr} {c' : Nat} (hc : cs.length ≤ c') (hr : Rb W A' cs) (hl : cs.length ≤ bs.length) (hu : U8 cs) (hbl : ∀ ad, A' = some ad → ad.block < g) : Rdr w0 (W.setCell ⟨g, 2, none⟩ (.slice A' cs.length c')) g m f cs := by
  obtain ⟨h0, A, c, h1, h2, h3, h4⟩ := h
  exact ⟨h0, A', c', by simpa using blk_set h1 2 (.slice A' cs.length c'), hc, reads_keep hr (keep_set _ _ _ _) (reads_ne h1 cells_no_int hr), Nat.lt_of_le_of_lt hl h4.1, hu, hbl⟩

set_option maxHeartbeats 800000 in
set_option maxRecDepth 100000 in
theorem clone (A0 : Option Addr) (c0 : Nat) (l0 : List Int) (w : World) (hr0 : Kd.C (Kd.int .u8) w A0 l0.length l0) (hc0 : l0.length ≤ c0) (hl : l0.length < 140737488355328) :
    Calls Try.prog 51 #[.slice A0 l0.length c0] w fun e w' => ∃ v : Value, e = .returned v ∧ Kd.R (Kd.int .u8) 5 w' w.heap.size (fun _ => True) v l0 ∧ Below w.heap.size w w' := by
  have hq := fun (n c : Nat) => Lib.run_eql_slice_nil (P := Try.prog) w 25 5 A0 n c 0 0 Try.underlying25
  have HR := Aside0.mk hr0
  have HL := Aside0.mk hl
  have HC := Aside0.mk hc0
  clear hr0 hl hc0
  cases A0 with
  | none =>
    have hz : l0 = [] := by
      have h := HR.out
      cases l0 with
      | nil => rfl
      | cons x xs => obtain ⟨ad, c, e, _⟩ := Kd.C_get h 0 0 (by omega) (by simp); cases e
    subst hz
    clear HR HL HC
    go_enter Try.func51, Try.ntmps51
    go_wp2
    go_ret
    exact ⟨_, rfl, Kd.R_nil _ _ _ _ _, Below.refl _ _⟩
  | some a =>
    have HB := Aside0.mk (Below.refl w.heap.size w)
    go_enter Try.func51, Try.ntmps51
    go_wp2_with (first
      | ((with_reducible refine gate_dst (N := 5) rfl ?_); refine Kd.R_lit (Kd.int .u8) _ 5 ?hg (N := 5) ?hd (xs := ([] : List Int)) (inner := []) (ok := fun _ => True) (okp := fun _ => True) ?hr ?hp (fun _ hk => hk) trivial (Below.refl _ _) (Nat.le_refl _) (by simp) ?_; (case hd => rfl); (case hg => rfl); (case hr => first | (go_simp; done) | (go_simp; rfl)); (case hp => exact (Reps.none _ _)); intro v255 w3 ho4 hb hg_ hnew_; clear hg_ hnew_; have n0_ := Aside0.mk (Kd.R_lower ho4 (below_size HB.out)); have n1_ := Aside0.mk (below_step HB.out hb); clear HB; have HO := n0_; have HB := n1_; clear n0_ n1_; clear hb ho4)
      | ((with_reducible refine gate_builtin (b := .append) (xs := #[.tmp 5, .tmp 6]) rfl ?_); at_builtin; refine Kd.R_append_rows (Kd.int .u8) (w0 := w) w.heap.size rfl (.tmp 5) (.tmp 6) 25 5 (.int .u8 0) 1 rfl Try.underlying25 info_u8 rfl (by decide) (by omega) v255 [] l0 _ _ _ (fun _ => True) (fun _ => False) rfl rfl HO.out (Kd.C_below HR.out HB.out) (fun _ _ h => h) (fun _ h => h.elim) (fun _ _ => trivial) HB.out (below_size HB.out) (by have := HL.out; simp; omega) ?_; intro v258 w5 ho hb hg hat; have n0_ := Aside0.mk (hb); have n1_ := Aside0.mk (ho); clear HB; clear HO; have HB := n0_; have HO := n1_; clear n0_ n1_; clear ho hb hg hat))
    go_ret
    exact ⟨_, rfl, HO.out, HB.out⟩

theorem clone_n (A0 : Option Addr) (c0 n : Nat) (l0 : List Int) (w : World) (hr0 : Rb w A0 l0) (hn : l0.length = n) (hc0 : n ≤ c0) (hl : n < 140737488355328) :
    Calls Try.prog 51 #[.slice A0 n c0] w fun e w' => ∃ v : Value, e = .returned v ∧ Ob w' w.heap.size v l0 ∧ Below w.heap.size w w' := by
  subst hn
  exact clone A0 c0 l0 w hr0 hc0 hl

set_option maxHeartbeats 800000 in
set_option maxRecDepth 100000 in
theorem new_ (A0 : Option Addr) (c0 : Nat) (l0 : List Int) (w : World) (hr0 : Rb w A0 l0) (hc0 : l0.length ≤ c0) (hl : l0.length < 140737488355328) (hu : U8 l0) :
    Calls Try.prog 59 #[.slice A0 l0.length c0] w fun e w' => ∃ g : Nat, e = .returned (.pointer (some ⟨g, 0, none⟩)) ∧ Rdr w w' g true false l0 ∧ Below w.heap.size w w' := by
  have HR := Aside0.mk hr0
  have HL := Aside0.mk hl
  have HC := Aside0.mk hc0
  have HU := Aside0.mk hu
  clear hr0 hl hc0 hu
  go_enter Try.func59, Try.ntmps59
  go_wp2_with (go_at_call 51; refine (clone A0 c0 l0 _ HR.out HC.out HL.out).mono ?_; rintro e w1 ⟨v, rfl, ho, hb⟩; obtain ⟨A, c, rfl, hlc, hrd⟩ := Kd.R_reads ho; have HLT := Aside0.mk (show ∀ ad, A = some ad → ad.block < w1.heap.size from fun ad e => Kd.R_lt ho ad.block (by rw [e]; rfl)); have HO := Aside0.mk hrd; have HLC := Aside0.mk hlc; have HB := Aside0.mk hb; clear hrd hlc hb ho)
  go_ret
  refine ⟨_, rfl, ⟨HB.out.size, A, c, ?_, HLC.out, Kd.C_alloc HO.out _, HL.out, HU.out, HLT.out⟩, below_alloc HB.out _⟩
  exact blk_new _ _

set_option maxHeartbeats 800000 in
set_option maxRecDepth 100000 in
theorem ok_ (w0 w : World) (g : Nat) (m f : Bool) (bs : List Int) (h : Rdr w0 w g m f bs) :
    Calls Try.prog 63 #[.pointer (some ⟨g, 0, none⟩)] w fun e w' => e = .returned (.bool (m && !f)) ∧ w = w' := by
  obtain ⟨_, A, c, h1, _⟩ := h
  have hc0 := (blk_cell h1 0).trans rfl
  have hc1 := (blk_cell h1 1).trans rfl
  clear h1
  cases m <;> cases f
  all_goals
    go_enter Try.func63, Try.ntmps63
    go_wp2
    go_ret
    exact ⟨rfl, rfl⟩
set_option maxHeartbeats 800000 in
theorem fail_ (w0 w : World) (g : Nat) (m f : Bool) (bs : List Int) (h : Rdr w0 w g m f bs) :
    Calls Try.prog 101 #[.pointer (some ⟨g, 0, none⟩)] w fun e w' => e = .returned (.tuple #[]) ∧ w' = w.setCell ⟨g, 1, none⟩ (.bool true) := by
  obtain ⟨_, A, c, h1, _⟩ := h
  have hc1 := (blk_cell h1 1).trans rfl
  have hf1 := blk_frozen h1 1
  clear h1
  go_enter Try.func101, Try.ntmps101
  go_wp2
  go_end0
  exact ⟨rfl, rfl⟩
set_option maxHeartbeats 800000 in
theorem left_ (w0 w : World) (g : Nat) (m f : Bool) (bs : List Int) (h : Rdr w0 w g m f bs) :
    Calls Try.prog 60 #[.pointer (some ⟨g, 0, none⟩)] w fun e w' => e = .returned (.int .i64 (if m && !f then (bs.length : Int) else 0)) ∧ w = w' := by
  have HI := Aside0.mk h
  obtain ⟨_, A, c, h1, _⟩ := h
  have hc2 : w.cell? ⟨g, 2, none⟩ = some (.slice A bs.length c) := (blk_cell h1 2).trans rfl
  clear h1
  cases m <;> cases f
  all_goals
    go_enter Try.func60, Try.ntmps60
    go_wp2_with (go_at_call 63; refine (ok_ w0 w g _ _ bs HI.out).mono ?_; rintro e w' ⟨rfl, rfl⟩)
    go_ret
    exact ⟨rfl, rfl⟩

set_option maxHeartbeats 1600000 in
set_option maxRecDepth 100000 in
theorem take_bad (w0 w : World) (g : Nat) (m f : Bool) (bs : List Int) (n : Int) (h : Rdr w0 w g m f bs) (hB : Below w0.heap.size w0 w) (hbad : ¬ (m = true ∧ f = false ∧ 0 ≤ n ∧ n ≤ bs.length)) :
    Calls Try.prog 92 #[.pointer (some ⟨g, 0, none⟩), .int .i64 n] w fun e w' => ∃ v, e = .returned v ∧ Ob w' w.heap.size v [] ∧ Rdr w0 w' g m true bs ∧ Below w0.heap.size w0 w' ∧ KeepBut w w' g none := by
  have HI := Aside0.mk h
  have HB := Aside0.mk hB
  clear hB
  have hfin : Rdr w0 (w.setCell ⟨g, 1, none⟩ (.bool true)) g m true bs ∧ Below w0.heap.size w0 (w.setCell ⟨g, 1, none⟩ (.bool true)) ∧ KeepBut w (w.setCell ⟨g, 1, none⟩ (.bool true)) g none := ⟨h.set true, below_set HB.out h.1, keep_set _ _ _ _⟩
  have HF := Aside0.mk hfin
  clear hfin
  obtain ⟨_, A, c, h1, _⟩ := h
  have hc2 : w.cell? ⟨g, 2, none⟩ = some (.slice A bs.length c) := (blk_cell h1 2).trans rfl
  clear h1
  by_cases hok : m = true ∧ f = false
  · obtain ⟨rfl, rfl⟩ := hok
    by_cases hn : n < 0
    · have hd : decide (n < 0) = true := decide_eq_true hn
      clear hbad hn
      go_enter Try.func92, Try.ntmps92
      go_wp2_with (first | (go_at_call 63; refine (ok_ w0 w g true false bs HI.out).mono ?_; rintro e w' ⟨rfl, rfl⟩) | (go_at_call 101; refine (fail_ w0 w g true false bs HI.out).mono ?_; rintro e w' ⟨rfl, rfl⟩))
      go_ret
      exact ⟨_, rfl, Kd.R_nil _ _ _ _ _, HF.out⟩
    · have hd : decide (n < 0) = false := decide_eq_false hn
      have hg : decide ((bs.length : Int) < n) = true := decide_eq_true (by
        by_cases h2 : (bs.length : Int) < n
        · exact h2
        · exact absurd ⟨rfl, rfl, by omega, by omega⟩ hbad)
      clear hbad hn
      go_enter Try.func92, Try.ntmps92
      go_wp2_with (first | (go_at_call 63; refine (ok_ w0 w g true false bs HI.out).mono ?_; rintro e w' ⟨rfl, rfl⟩) | (go_at_call 101; refine (fail_ w0 w g true false bs HI.out).mono ?_; rintro e w' ⟨rfl, rfl⟩))
      go_ret
      exact ⟨_, rfl, Kd.R_nil _ _ _ _ _, HF.out⟩
  · clear hbad
    have hb : (m && !f) = false := by cases m <;> cases f <;> simp_all
    clear hok
    go_enter Try.func92, Try.ntmps92
    go_wp2_with (first | (go_at_call 63; refine (ok_ w0 w g m f bs HI.out).mono ?_; rintro e w' ⟨rfl, rfl⟩) | (go_at_call 101; refine (fail_ w0 w g m f bs HI.out).mono ?_; rintro e w' ⟨rfl, rfl⟩))
    go_ret
    exact ⟨_, rfl, Kd.R_nil _ _ _ _ _, HF.out⟩

set_option maxHeartbeats 1600000 in
set_option maxRecDepth 100000 in
theorem take_good (w0 w : World) (g : Nat) (bs : List Int) (n : Nat) (h : Rdr w0 w g true false bs) (hB : Below w0.heap.size w0 w) (hn : n ≤ bs.length) :
    Calls Try.prog 92 #[.pointer (some ⟨g, 0, none⟩), .int .i64 n] w fun e w' => ∃ v, e = .returned v ∧ Ob w' w.heap.size v (bs.take n) ∧ Rdr w0 w' g true false (bs.drop n) ∧ Below w0.heap.size w0 w' ∧ KeepBut w w' g none := by
  have HI := Aside0.mk h
  have HB := Aside0.mk hB
  clear hB
  obtain ⟨hg0, A, c, h1, h2, h3, h4⟩ := h
  have hnn : (0 : Int) ≤ (n : Int) := Int.natCast_nonneg _
  have hnc : (n : Int) ≤ (c : Int) := by omega
  have hd0 : decide ((n : Int) < 0) = false := decide_eq_false (by omega)
  have hd1 : decide ((bs.length : Int) < (n : Int)) = false := decide_eq_false (by omega)
  have hd2 : decide (bs.length < n) = false := decide_eq_false (by omega)
  have H1 := Aside0.mk h1
  have hc2 : w.cell? ⟨g, 2, none⟩ = some (.slice A bs.length c) := (blk_cell h1 2).trans rfl
  have hf2 := blk_frozen h1 2
  have h3' := Kd.reads_of_C (d := (0 : Int)) h3
  have hlen : bs.length ≤ 9223372036854775807 := h3'.2.1
  obtain ⟨i0, hi, hz0, hz1, hz2⟩ := info_parts info_u8
  obtain ⟨A', hcut, hA', hbk⟩ := cut2 (P := Try.prog) 25 5 .i64 Try.underlying25 hi hz1 A bs.length c n hn
  have hrest : Rb w A' (bs.drop n) := by
    have := Kd.C_of_reads (d := (0 : Int)) (h1 := fun _ => rfl) (hA' w .u8 bs h2 h3')
    rwa [← List.length_drop] at this
  have hfirst : Rb w A (bs.take n) := by
    have h5 := Kd.C_of_reads (d := (0 : Int)) (h1 := fun _ => rfl) (ReadsInt.take_ h3' n hn)
    show Kd.C _ w A (bs.take n).length (bs.take n)
    rw [show (bs.take n).length = n from by rw [List.length_take]; omega]
    exact h5
  have hR := (show Rdr w0 w g true false bs from ⟨hg0, A, c, h1, h2, h3, h4⟩).cut (c' := c - n) (by rw [List.length_drop]; omega) hrest (by rw [List.length_drop]; omega) (h4.2.1.drop n) (fun ad' e => by obtain ⟨ad, e2, e3⟩ := hbk ad' e; rw [e3]; exact h4.2.2 ad e2)
  rw [List.length_drop] at hR
  have HRd := Aside0.mk hR
  have HF := Aside0.mk (reads_keep hfirst (keep_set w g 2 (.slice A' (bs.length - n) (c - n))) (reads_ne h1 cells_no_int hfirst))
  have HBn := Aside0.mk (below_set (j := 2) (v := .slice A' (bs.length - n) (c - n)) HB.out hg0)
  have HKn := Aside0.mk (keep_set w g 2 (.slice A' (bs.length - n) (c - n)))
  have HTL := Aside0.mk (show (bs.take n).length = n by rw [List.length_take]; omega)
  have HBL := Aside0.mk (show n < 140737488355328 by have := h4.1; omega)
  clear hR hrest hfirst h1 h3 h4 hbk hA' h3' hi hz0 hz1 hz2 hg0
  go_enter Try.func92, Try.ntmps92
  go_wp2_with (first | (go_at_call 63; refine (ok_ w0 w g true false bs HI.out).mono ?_; rintro e w' ⟨rfl, rfl⟩) | (go_at_call 51; refine (clone_n A n n (bs.take n) _ HF.out HTL.out (Nat.le_refl _) HBL.out).mono ?_; rintro e w1 ⟨v, rfl, ho, hb⟩; have HO := Aside0.mk ho; have HW := Aside0.mk hb; clear ho hb))
  go_ret
  refine ⟨_, rfl, Kd.R_lower HO.out HKn.out.1, HRd.out.below HW.out, HBn.out.trans (HW.out.mono HBn.out.size), HKn.out.trans (KeepBut.of_below HW.out g none) (.inl rfl)⟩

/-- A reader's state: the bytes that are left, or that it failed. -/
def RdO (w0 W : World) (g : Nat) (st : Option (List Int)) : Prop :=
  match st with
  | some bs => Rdr w0 W g true false bs
  | none => ∃ m f bs, (m && !f) = false ∧ Rdr w0 W g m f bs
theorem RdO.any {w0 W : World} {g : Nat} {st : Option (List Int)} (h : RdO w0 W g st) : ∃ m f bs, (m && !f) = st.isSome ∧ Rdr w0 W g m f bs := by
  cases st with
  | some bs => exact ⟨true, false, bs, rfl, h⟩
  | none => exact h
theorem RdO.below {w0 W W1 : World} {g : Nat} {st : Option (List Int)} (h : RdO w0 W g st) (hb : Below W.heap.size W W1) : RdO w0 W1 g st := by
  cases st with
  | some bs => exact Rdr.below h hb
  | none => obtain ⟨m, f, bs, e, h⟩ := h; exact ⟨m, f, bs, e, h.below hb⟩
theorem RdO.keep {w0 W W1 : World} {g g' : Nat} {st : Option (List Int)} (h : RdO w0 W g st) (hk : KeepBut W W1 g' none) (hne : g ≠ g') {T : Nat} {cs : Array Value} (hb : W.heap[g']? = some (.cells cs T (0, 0))) (hcs : ∀ i : Nat, ∀ v, cs[i]? = some v → ∀ n, v ≠ Value.int .u8 n) : RdO w0 W1 g st := by
  cases st with
  | some bs => exact Rdr.keep h hk hne hb hcs
  | none => obtain ⟨m, f, bs, e, h⟩ := h; exact ⟨m, f, bs, e, h.keep hk hne hb hcs⟩
theorem RdO.grown {w0 W W1 : World} {g : Nat} {st : Option (List Int)} {row : Option Nat} (h : RdO w0 W g st) (hg : W.grownBy W1 row) (hr : ∀ b, row = some b → g < b) : RdO w0 W1 g st := by
  cases st with
  | some bs => exact Rdr.grown h hg hr
  | none => obtain ⟨m, f, bs, e, h⟩ := h; exact ⟨m, f, bs, e, h.grown hg hr⟩
theorem RdO.lower {w0 w1 W : World} {g : Nat} {st : Option (List Int)} (h : RdO w1 W g st) (hs : w0.heap.size ≤ w1.heap.size) : RdO w0 W g st := by
  cases st with
  | some bs => exact Rdr.lower h hs
  | none => obtain ⟨m, f, bs, e, h⟩ := h; exact ⟨m, f, bs, e, h.lower hs⟩
theorem RdO.blk {w0 W : World} {g : Nat} {st : Option (List Int)} (h : RdO w0 W g st) : w0.heap.size ≤ g ∧ g < W.heap.size ∧ ∃ cs, W.heap[g]? = some (.cells cs 115 (0, 0)) ∧ ∀ i : Nat, ∀ v, cs[i]? = some v → ∀ n, v ≠ Value.int .u8 n := by
  obtain ⟨m, f, bs, _, h0, A, c, h1, _⟩ := h.any
  exact ⟨h0, blk_lt h1, _, h1, cells_no_int⟩
theorem RdO.u8 {w0 W : World} {g : Nat} {bs : List Int} (h : RdO w0 W g (some bs)) : U8 bs ∧ bs.length < 140737488355328 := by
  obtain ⟨_, _, _, _, _, _, h1, h2⟩ := (show Rdr w0 W g true false bs from h)
  exact ⟨h2.1, h1⟩
/-- What a call that is handed a reader leaves. -/
def Left (w0 w w' : World) (g : Nat) (st : Option (List Int)) : Prop := RdO w0 w' g st ∧ Below w0.heap.size w0 w' ∧ KeepBut w w' g none
theorem Left.trans {w0 w w1 w2 : World} {g : Nat} {s1 s2 : Option (List Int)} (h : Left w0 w w1 g s1) (k : Left w0 w1 w2 g s2) : Left w0 w w2 g s2 := ⟨k.1, k.2.1, h.2.2.trans k.2.2 (.inl rfl)⟩
theorem Left.refl {w0 w : World} {g : Nat} {st : Option (List Int)} (h : RdO w0 w g st) (hB : Below w0.heap.size w0 w) : Left w0 w w g st := ⟨h, hB, KeepBut.refl _ _ _⟩

theorem okO (w0 w : World) (g : Nat) (st : Option (List Int)) (h : RdO w0 w g st) :
    Calls Try.prog 63 #[.pointer (some ⟨g, 0, none⟩)] w fun e w' => e = .returned (.bool st.isSome) ∧ w = w' := by
  obtain ⟨m, f, bs, e, h⟩ := h.any
  rw [← e]
  exact ok_ w0 w g m f bs h
theorem leftO_ (w0 w : World) (g : Nat) (st : Option (List Int)) (h : RdO w0 w g st) :
    Calls Try.prog 60 #[.pointer (some ⟨g, 0, none⟩)] w fun e w' => e = .returned (.int .i64 (leftO st)) ∧ w = w' := by
  cases st with
  | some bs => exact left_ w0 w g true false bs h
  | none =>
    obtain ⟨m, f, bs, e, h⟩ := h
    have := left_ w0 w g m f bs h
    rw [e] at this
    exact this
theorem failO (w0 w : World) (g : Nat) (st : Option (List Int)) (h : RdO w0 w g st) (hB : Below w0.heap.size w0 w) :
    Calls Try.prog 101 #[.pointer (some ⟨g, 0, none⟩)] w fun e w' => e = .returned (.tuple #[]) ∧ Left w0 w w' g none := by
  obtain ⟨m, f, bs, e, h⟩ := h.any
  refine (fail_ w0 w g m f bs h).mono ?_
  rintro e w' ⟨rfl, rfl⟩
  exact ⟨rfl, ⟨m, true, bs, by cases m <;> rfl, h.set true⟩, below_set hB h.1, keep_set _ _ _ _⟩
theorem takeO_ (w0 w : World) (g : Nat) (st : Option (List Int)) (n : Int) (h : RdO w0 w g st) (hB : Below w0.heap.size w0 w) :
    Calls Try.prog 92 #[.pointer (some ⟨g, 0, none⟩), .int .i64 n] w fun e w' => ∃ v, e = .returned v ∧ Ob w' w.heap.size v (takeO st n).1 ∧ Left w0 w w' g (takeO st n).2 := by
  cases st with
  | some bs =>
    by_cases hn : 0 ≤ n ∧ n ≤ bs.length
    · obtain ⟨m, rfl⟩ := Int.eq_ofNat_of_zero_le hn.1
      have e : takeO (some bs) (m : Int) = (bs.take m, some (bs.drop m)) := by simp only [takeO]; rw [if_pos hn]; rfl
      rw [e]
      refine (take_good w0 w g bs m h hB (by omega)).mono ?_
      rintro e w' ⟨v, rfl, h1, h2, h3, h4⟩
      exact ⟨v, rfl, h1, h2, h3, h4⟩
    · have e : takeO (some bs) n = ([], none) := by simp only [takeO]; rw [if_neg hn]
      rw [e]
      refine (take_bad w0 w g true false bs n h hB (fun h => hn h.2.2)).mono ?_
      rintro e w' ⟨v, rfl, h1, h2, h3, h4⟩
      exact ⟨v, rfl, h1, ⟨_, _, _, rfl, h2⟩, h3, h4⟩
  | none =>
    obtain ⟨m, f, bs, e, h⟩ := h
    refine (take_bad w0 w g m f bs n h hB (fun h => by obtain ⟨rfl, rfl, _⟩ := h; cases e)).mono ?_
    rintro e w' ⟨v, rfl, h1, h2, h3, h4⟩
    exact ⟨v, rfl, h1, ⟨_, _, _, by cases m <;> rfl, h2⟩, h3, h4⟩
theorem newO (A0 : Option Addr) (c0 : Nat) (l0 : List Int) (w : World) (hr0 : Rb w A0 l0) (hc0 : l0.length ≤ c0) (hl : l0.length < 140737488355328) (hu : U8 l0) :
    Calls Try.prog 59 #[.slice A0 l0.length c0] w fun e w' => ∃ g : Nat, e = .returned (.pointer (some ⟨g, 0, none⟩)) ∧ RdO w w' g (some l0) ∧ Below w.heap.size w w' := new_ A0 c0 l0 w hr0 hc0 hl hu
end Go.Proofs.Ytfpkgdenohcglaa.Tlv
/- chain.Add. -/
namespace Go.Proofs.Ytfpkgdenohcglaa.Chn
set_option linter.unusedVariables false
set_option linter.unusedSimpArgs false
open Go.RowKit Go.Proofs.Ytfpkgdenohcglaa.Base Go.Proofs.Ytfpkgdenohcglaa.TlvPlain Go.Proofs.Ytfpkgdenohcglaa.ShaPlain Go.Proofs.Ytfpkgdenohcglaa.Sha Go.Proofs.Ytfpkgdenohcglaa.Com Go.Proofs.Ytfpkgdenohcglaa.Aid Go.Proofs.YtfpkgdenohcglaaW.PrintWords Go.Proofs.YtfpkgdenohcglaaW.PrintLast Go.Proofs.YtfpkgdenohcglaaW.PrintMore
set_option maxHeartbeats 4000000 in
set_option maxRecDepth 100000 in
theorem add_c (l : List Ent) (m : Nat) (hl : l.length = m) (hm : m ≤ 100000) (hu : Lu' l) (A : Option Addr) (c : Nat) (hc : m ≤ c) (salt : Int) (h0 : 0 ≤ salt) (h1 : salt ≤ 18446744073709551615) (pay : List Int) (hpu : U8 pay) (hpl : pay.length ≤ 100000)
    (B : Option Addr) (cb : Nat) (hcb : pay.length ≤ cb) (w : World) (hr : Re w A l) (hp : Rb w B pay) :
    Calls Try.prog 13 #[.slice A m c, .int .u64 salt, .slice B pay.length cb] w (RetE w (addT l salt pay)) := by
  unfold RetE
  obtain ⟨D, hD⟩ := sumC (headT l) (headT_len _)
  obtain ⟨E, hE⟩ := sumC (comH salt pay) (comH_len _ _)
  have HH := Aside0.mk (head_c l m hl (by omega) hu A c w hr)
  unfold Ret at HH
  rw [hD.v] at HH
  have HOF := Aside0.mk (fun W (hW : Below w.heap.size w W) => by
    have h2 := cof_c salt h0 h1 B cb pay W (Kd.C_below hp hW) hcb hpu hpl
    rw [← comH_eq, hE.v] at h2
    exact h2)
  have HCL := Aside0.mk (fun W (hW : Below w.heap.size w W) => Tlv.clone B cb pay W (Kd.C_below hp hW) hcb (by omega))
  obtain ⟨rows, hrl, hrr, hrk⟩ := rows_of hr
  have HR := Aside0.mk hrr
  have HRL := Aside0.mk hrl
  have HRK := Aside0.mk hrk
  have HD := Aside0.mk hD
  have HE := Aside0.mk hE
  have HL := Aside0.mk hl
  have HM := Aside0.mk hm
  have q0 : (m : Int) ≤ 100000 := by omega
  clear hl hm hu hc h0 h1 hpu hpl hcb hr hp hD hE hrl hrr hrk
  go_enter Try.func13, Try.ntmps13
  go_upto_region 2 with (first
    | (go_at_call 22; refine HH.out.mono ?_; rintro e w2 ⟨rfl, hb⟩; have HB2 := Aside0.mk hb; clear hb)
    | (go_at_call 50; refine (HOF.out _ HB2.out).mono ?_; rintro e w3 ⟨rfl, hb⟩; have HB3 := Aside0.mk (below_step HB2.out hb); clear hb)
    | (go_at_call 51; refine (HCL.out _ HB3.out).mono ?_; rintro e w4 ⟨v, rfl, ho, hb⟩; have HB4 := Aside0.mk (below_step HB3.out hb); obtain ⟨A4, c4, rfl, hc4, hr4⟩ := Kd.R_reads ho; have HC4 := Aside0.mk hc4; have HR4 := Aside0.mk hr4; clear ho hb hc4 hr4)
    | ((with_reducible refine gate_dst (N := 19) rfl ?_); refine wpList_new rfl (.tmp 10) (.tmp 12) (.tmp 15) (.tmp 16) (.tmp 18) rfl (m : Int) salt D E HD.out.lenC HE.out.lenC A4 pay.length c4 rfl rfl rfl rfl rfl ?_;
       have hC := (show EntC w4 (newE l salt pay) D E A4 c4 from ⟨HD.out, HE.out, HC4.out, HR4.out⟩);
       have HKE := Aside0.mk (ent_mk hC); have HXL := Aside0.mk hC.len; have HXO := Aside0.mk hC.one; have HXI := Aside0.mk hC.info; clear hC;
       rw [show cE (newE l salt pay) D E A4 c4 = cellsE (m : Int) D E salt A4 pay.length c4 false from by rw [← HL.out]] at HKE HXL HXO HXI;
       obtain ⟨X, hX⟩ : ∃ X, cellsE (m : Int) D E salt A4 pay.length c4 false = X := ⟨_, rfl⟩; rw [hX] at HKE HXL HXO HXI ⊢; clear hX;
       have HY := Aside0.mk (show (w4.alloc (.cells zE.toArray 27)).heap[w4.heap.size]? = some (.cells zE.toArray 27 (0, 0)) from blk_new _ _))
    | ((with_reducible refine gate_store (t := 27) (p := 7) (v := .tmp 19) rfl ?_); refine wpList_store_row rfl 27 (.tmp 7) (.tmp 19) rfl w4.heap.size X.toArray rfl rfl 27 zE.toArray HY.out (by rw [List.size_toArray]; exact HXI.out) (by rw [List.size_toArray, List.size_toArray, zE_len, HXL.out]) HXO.out ?_))
  have HX5 := Aside0.mk (setRow_heap (w4.alloc (.cells zE.toArray 27)) w4.heap.size zE.toArray X.toArray _ _ HY.out)
  have HB5 := Aside0.mk (show Below w4.heap.size w4 ((w4.alloc (.cells zE.toArray 27)).setRow w4.heap.size X.toArray) from below_setRow (below_alloc (Below.refl _ _) _) (Nat.le_refl _) _)
  obtain ⟨w5, hw5⟩ : ∃ V, (w4.alloc (.cells zE.toArray 27)).setRow w4.heap.size X.toArray = V := ⟨_, rfl⟩
  rw [hw5] at HX5 HB5
  rw [show (w4.alloc (.cells Try.zeroCells27 27)).setRow w4.heap.size X.toArray = w5 from hw5]
  clear hw5 HY
  have HS5 := Aside0.mk (show w4.heap.size < w5.heap.size from (Array.getElem?_eq_some_iff.1 HX5.out).1)
  go_wp2_with (first
    | (at_make; refine wpList_make_e rfl (.tmp 21) (.tmp 24) rfl m HM.out rfl rfl ?_; intro zs hzs; have HZS := Aside0.mk hzs; clear hzs)
    | ((with_reducible refine gate_builtin (b := .copy) (xs := #[.tmp 26, .tmp 27]) rfl ?_); refine wpList_copy_e (w0 := w4) rfl (.tmp 26) (.tmp 27) rfl w5.heap.size m c A rfl rfl HM.out zs (blk_new _ _) HZS.out rows (by rw [HRL.out, HL.out]) (by have h := ReadsRow.imp_ HR.out (below_step HB4.out (below_alloc HB5.out (.cells zs.toArray 27))) (fun _ _ hp => hp); rw [HL.out] at h; exact h) w4.heap.size (Nat.le_of_lt HS5.out) (below_alloc HB5.out _) ?_;
       intro w6 hR hb hk; have HR6 := Aside0.mk hR; have HB6 := Aside0.mk hb; have HX6 := Aside0.mk (atC_blk ((hk w4.heap.size (Nat.ne_of_lt HS5.out)).trans (blk_alloc HX5.out _))); clear hR hb hk)
    | ((with_reducible refine gate_dst (N := 30) rfl ?_); refine wpList_load_at rfl 27 (.tmp 7) rfl ⟨w4.heap.size, 0, none⟩ rfl X _ HX6.out Try.underlying27 rfl HXI.out ?_)
    | ((with_reducible refine gate_dst (N := 31) rfl ?_); refine wpList_ent1 rfl (.tmp 30) rfl X rfl HXL.out ?_)
    | ((with_reducible refine gate_builtin (b := .append) (xs := #[.tmp 29, .tmp 31]) rfl ?_); at_builtin; refine Kd.R_append KW (w0 := w4) w4.heap.size rfl (.tmp 29) (.tmp 31) 22 27 (.agg Try.zeroCells27) 112 rfl Try.underlying22 info_ent3 rfl (by decide) (by decide) _ rows X X (fun _ => True) (fun _ => False) rfl rfl ⟨rfl, HXL.out, fun u hu => by have h := HXO.out; rw [List.all_toArray, List.all_eq_true] at h; exact h u hu⟩ (fun _ h => h.elim) (fun _ _ => trivial) HR6.out HB6.out HB6.out.size (by rw [HRL.out, HL.out]; have := HM.out; omega) ?_; intro v7 w7 ho hb hg hat; have HO7 := Aside0.mk ho; have HB7 := Aside0.mk hb; clear ho hb hg hat))
  go_ret
  have hfin := Rw.snoc (x := newE l salt pay) (w0 := w) (W := w4) HRL.out HO7.out HRK.out (below_step HB4.out HB7.out) HKE.out HB7.out
  exact ⟨_, rfl, hfin.lower HB4.out.size, below_step HB4.out HB7.out⟩
end Go.Proofs.Ytfpkgdenohcglaa.Chn
/- The document's Add. -/
namespace Go.Proofs.Ytfpkgdenohcglaa.Chn
set_option linter.unusedVariables false
set_option linter.unusedSimpArgs false
open Go.RowKit Go.Proofs.Ytfpkgdenohcglaa.Base Go.Proofs.Ytfpkgdenohcglaa.TlvPlain Go.Proofs.Ytfpkgdenohcglaa.ShaPlain Go.Proofs.Ytfpkgdenohcglaa.Sha Go.Proofs.Ytfpkgdenohcglaa.Com Go.Proofs.Ytfpkgdenohcglaa.Aid Go.Proofs.YtfpkgdenohcglaaW.PrintWords Go.Proofs.YtfpkgdenohcglaaW.PrintLast Go.Proofs.YtfpkgdenohcglaaW.PrintMore
end Go.Proofs.Ytfpkgdenohcglaa.Chn
/- Redact of chain and of the document. -/
namespace Go.Proofs.Ytfpkgdenohcglaa.Chn
set_option linter.unusedVariables false
set_option linter.unusedSimpArgs false
open Go.RowKit Go.Proofs.Ytfpkgdenohcglaa.Base Go.Proofs.Ytfpkgdenohcglaa.TlvPlain Go.Proofs.Ytfpkgdenohcglaa.ShaPlain Go.Proofs.Ytfpkgdenohcglaa.Sha Go.Proofs.Ytfpkgdenohcglaa.Com Go.Proofs.Ytfpkgdenohcglaa.Aid Go.Proofs.YtfpkgdenohcglaaW.PrintWords Go.Proofs.YtfpkgdenohcglaaW.PrintLast Go.Proofs.YtfpkgdenohcglaaW.PrintMore
/-- An entry's fields, wherever it lies. -/
structure EntF (W : World) (ad : Addr) (x : Ent) (P C : List Value) (A : Option Addr) (c : Nat) : Prop where
  s : W.cell? ad = some (.int .i64 (seqE x))
  fp : AtC W (ad.add 1) P
  fc : AtC W (ad.add 33) C
  sl : W.cell? (ad.add 65) = some (.int .u64 (saltE x))
  py : W.cell? (ad.add 66) = some (.slice A (payE x).length c)
  r : W.cell? (ad.add 67) = some (.bool (redE x))
theorem EntF.below {W W' : World} {ad : Addr} {x : Ent} {P C : List Value} {A : Option Addr} {c : Nat} (h : EntF W ad x P C A c) (hb : Below W.heap.size W W') : EntF W' ad x P C A c :=
  ⟨cell_below hb h.s, h.fp.below hb, h.fc.below hb, cell_below hb h.sl, cell_below hb h.py, cell_below hb h.r⟩
theorem entF {W : World} {ad : Addr} {x : Ent} {P C : List Value} {A : Option Addr} {c : Nat} (hP : P.length = 32) (hC : C.length = 32) (h : AtC W ad (cE x P C A c)) : EntF W ad x P C A c := by
  have h0 : W.cell? ad = some (.int .i64 (seqE x)) := by have h := h 0 _ rfl; rwa [show ad.add 0 = ad from rfl] at h
  have h1 := AtC.right (a := [Value.int .i64 (seqE x)]) (b := P ++ (C ++ [Value.int .u64 (saltE x), .slice A (payE x).length c, .bool (redE x)])) h
  have h2 := h1.right
  rw [hP, show (ad.add [Value.int .i64 (seqE x)].length).add 32 = ad.add 33 from addr_add_add _ _ _] at h2
  have h3 := h2.right
  rw [hC, addr_add_add] at h3
  refine ⟨h0, h1.left, h2.left, ?_, ?_, ?_⟩
  · have h4 := h3 0 _ rfl
    rwa [addr_add_add] at h4
  · have h4 := h3 1 _ rfl
    rwa [addr_add_add] at h4
  · have h4 := h3 2 _ rfl
    rwa [addr_add_add] at h4
theorem set_last (s sl : Int) (P C : List Value) (hP : P.length = 32) (hC : C.length = 32) (A : Option Addr) (n c : Nat) (r : Bool) :
    (((cellsE s P C sl A n c r).set 65 (.int .u64 0)).set 66 (.slice none 0 0)).set 67 (.bool true) = cellsE s P C 0 none 0 0 true := by
  have e : ∀ l : List Value, Value.int .i64 s :: (P ++ (C ++ l)) = (Value.int .i64 s :: (P ++ C)) ++ l := fun l => by simp
  have hn : (Value.int .i64 s :: (P ++ C)).length = 65 := by simp [hP, hC]
  unfold cellsE
  rw [e, e, List.set_append_right _ _ (by rw [hn]; decide), List.set_append_right _ _ (by rw [hn]; decide), List.set_append_right _ _ (by rw [hn]; decide), hn]
  rfl
theorem cut_mk {w : World} {x : Ent} {P C : List Value} {A : Option Addr} {c : Nat} (h : EntC w x P C A c) : EntC w (cutE x) P C none 0 := ⟨h.fp, h.fc, Nat.le_refl _, Kd.C_nil _ _⟩
theorem Rw.cut {w0 w' : World} {base : Nat} {v : Value} {l : List Ent} {rows : List (List Value)} {k : Nat} {x : Ent} {cs : List Value} (hl : rows.length = l.length) (hR : KW.R 27 w' base (fun _ => True) v (rows.set k cs))
    (h0 : ∀ (j : Nat) (x : Ent) (c : List Value), l[j]? = some x → rows[j]? = some c → DEnt.K w0 x c) (hb0 : Below w0.heap.size w0 w') (hx : DEnt.K w0 x cs) : Rw w' base v (l.set k x) := by
  refine ⟨rows.set k cs, by simp [hl], hR, fun j y c hy hc => ?_⟩
  rw [List.getElem?_set] at hy hc
  split at hy
  · next he =>
    rw [if_pos he] at hc
    split at hy
    · next hlt =>
      rw [if_pos (by omega)] at hc
      rw [← Option.some.inj hy, ← Option.some.inj hc]
      exact DEnt.K_below hb0 hx
    · cases hy
  · next he =>
    rw [if_neg he] at hc
    exact DEnt.K_below hb0 (h0 j y c hy hc)
section
variable {ops : Array Oper} {rest : List Oper} {o : Oper} {a : Act} {Q : Exit → Act → World → Prop}
/-- One cell of an entry in a row of one's own. -/
theorem wpList_put {W w0 : World} {base : Nat} (hN : o.dst = none) (hgd : o.guard = none) (t : TypeId) (p x : Operand) (ho : o.op = .store t p x) {g n cap o' : Nat} (k j : Nat) (rows : List (List Value)) (u : Value) (c : List Value)
    (haddr : a.eval p = .pointer (some ⟨g, o', none⟩)) (hoff : o' = k * 68 + j) (hx : a.eval x = u) (hu : u.cells.toList = [u]) (ht : (Try.prog.info? t).map (·.size) = some 1) (h1 : u.oneCell' = true)
    (HO : KW.R 27 W base (fun _ => True) (.slice (some ⟨g, 0, none⟩) n cap) rows) (hk : k < n) (hc : rows[k]? = some c) (hj : j < 68) (HB : Below base w0 W)
    (h : ∀ w1, KW.R 27 w1 base (fun _ => True) (.slice (some ⟨g, 0, none⟩) n cap) (rows.set k (c.set j u)) → Below base w0 w1 → wpList Try.prog ops Q rest a w1) : wpList Try.prog ops Q (o :: rest) a W := by
  obtain ⟨c', hcl, hM, hcc, _⟩ := Kd.R_elem HO [] (k : Int) (by omega) (by omega)
  rw [Int.toNat_natCast] at hM hcc
  have he : c' = c := by
    have h2 := hM.1
    rwa [List.getD_eq_getElem?_getD, hc] at h2
  subst he
  have hcl : c'.length = 68 := hcl
  have hset : c'.take j ++ [u] ++ c'.drop (j + 1) = c'.set j u := by
    rw [List.set_eq_take_append_cons_drop, if_pos (by omega)]
    simp
  refine Kd.R_store KW base hN hgd t p x ho 27 (k : Int) j rows (c'.set j u) u [u] c' (fun _ => True) (fun _ => False) haddr (by rw [hoff, Int.toNat_natCast]; rfl) hx hu ht (fun q hq => by rw [List.mem_singleton.1 hq]; exact h1) HO (by omega) (by omega) hcl (by rw [Int.toNat_natCast]; exact hcc) (by show j + 1 ≤ 68; omega)
    ⟨hset, by show (c'.take j ++ [u] ++ c'.drop (j + 1)).length = 68; rw [hset, List.length_set, hcl], fun q hq => by
      rw [show [u].length = 1 from rfl, hset] at hq
      rcases List.mem_or_eq_of_mem_set hq with h3 | h3
      · exact hM.2.2 q h3
      · rw [h3]; exact h1⟩ (fun _ hk => hk.elim) HB ?_
  intro w1 hr hb hg
  rw [Int.toNat_natCast] at hr
  exact h w1 hr hb
end
abbrev RetR (w : World) (r : List Ent × Int) : Ending → World → Prop := fun e w' => ∃ v, e = .returned (.tuple #[v, .int .i64 r.2]) ∧ Rw w' w.heap.size v r.1 ∧ Below w.heap.size w w'
theorem fin_red {w w5 : World} {l : List Ent} {rows : List (List Value)} {k m g cap : Nat} {x : Ent} {cs : List Value} (hl : rows.length = l.length) (hK : ∀ (j : Nat) (x : Ent) (c : List Value), l[j]? = some x → rows[j]? = some c → DEnt.K w x c)
    (hc : DEnt.K w x cs) (hb : Below w.heap.size w w5)
    (hR : KW.R 27 w5 w.heap.size (fun _ => True) (.slice (some ⟨g, 0, none⟩) m cap) (rows.set k (((cs.set 65 (.int .u64 0)).set 66 (.slice none 0 0)).set 67 (.bool true)))) :
    Rw w5 w.heap.size (.slice (some ⟨g, 0, none⟩) m cap) (l.set k (cutE x)) := by
  obtain ⟨P, C, A, c, hC, rfl⟩ := ent_open hc
  rw [set_last _ _ _ _ hC.fp.lenC hC.fc.lenC] at hR
  exact Rw.cut hl hR hK hb (ent_mk (cut_mk hC))
theorem redT_in (l : List Ent) (k : Nat) (h : k < l.length) : redT l (k : Int) = if redE l[k] then ([], 13) else (l.set k (cutE l[k]), 0) := by
  unfold redT
  rw [if_pos (by omega), Int.toNat_natCast, List.getElem?_eq_getElem h]
set_option maxHeartbeats 4000000 in
set_option maxRecDepth 100000 in
theorem redact_in (l : List Ent) (m : Nat) (hl : l.length = m) (hm : m ≤ 100000) (k : Nat) (hk : k < m) (A : Option Addr) (c : Nat) (hc : m ≤ c) (w : World) (hr : Re w A l) :
    Calls Try.prog 15 #[.slice A m c, .int .i64 k] w (RetR w (redT l (k : Int))) := by
  rw [redT_in l k (by omega)]
  obtain ⟨ad, P, C, B, cb, rfl, hat, hC⟩ := re_at hr k (by omega)
  have HEF := Aside0.mk (entF hC.fp.lenC hC.fc.lenC hat)
  obtain ⟨x, hx⟩ : ∃ x, l[k]'(by omega) = x := ⟨_, rfl⟩
  have HXK := Aside0.mk (show l[k]? = some x from by rw [List.getElem?_eq_getElem (by omega), hx])
  rw [hx] at hat hC HEF ⊢
  have HC := Aside0.mk hC
  have HAT := Aside0.mk hat
  have q0 : (0 : Int) ≤ (k : Int) := by omega
  have q1 : (k : Int) < (m : Int) := by omega
  have q2 : decide ((k : Int) < 0) = false := decide_eq_false (by omega)
  have q3 : decide ((m : Int) ≤ (k : Int)) = false := decide_eq_false (by omega)
  have q4 : decide (m ≤ k) = false := decide_eq_false (by omega)
  have q5 : (k : Int) ≤ 100000 := by omega
  have HM := Aside0.mk hm
  have HK := Aside0.mk hk
  have HL := Aside0.mk hl
  have HR := Aside0.mk hr
  unfold RetR
  have HCL := Aside0.mk (eclone_c l m hl hm (some ad) c hc w hr)
  have hred : w.cell? ⟨(ad.add (k * 68)).block, (ad.add (k * 68)).off + 67, none⟩ = some (.bool (redE x)) := HEF.out.r
  obtain ⟨rd, hrd⟩ : ∃ rd, redE x = rd := ⟨_, rfl⟩
  rw [hrd] at hred ⊢
  clear hl hm hk hc hr hat hC hx hrd
  cases rd with
  | true =>
    rw [if_pos rfl]
    go_enter Try.func15, Try.ntmps15
    go_wp2_with (fail)
    go_ret2
    exact ⟨_, rfl, Rw.nil _ _, Below.refl _ _⟩
  | false =>
    rw [if_neg Bool.false_ne_true]
    go_enter Try.func15, Try.ntmps15
    go_wp2_with (fail)
    refine HCL.out.mono ?_
    rintro e w2 ⟨v, rows, rfl, hrl, hR, hK, hb⟩
    obtain ⟨g, cap, hv, hg1, hg2, _⟩ := Kd.R_form hR (by rw [hrl, HL.out]; exact Nat.lt_of_le_of_lt (Nat.zero_le _) HK.out)
    subst hv
    rw [hrl, HL.out] at hR ⊢
    have hkr : k < rows.length := by rw [hrl, HL.out]; exact HK.out
    have HRK := Aside0.mk (List.getElem?_eq_getElem hkr)
    obtain ⟨cs, hcs⟩ : ∃ cs, rows[k] = cs := ⟨_, rfl⟩
    rw [hcs] at HRK
    have HKC := Aside0.mk (hK k x cs HXK.out HRK.out)
    have HR2 := Aside0.mk hR
    have HKK := Aside0.mk hK
    have HRL := Aside0.mk hrl
    have HB2 := Aside0.mk hb
    have HKR := Aside0.mk hkr
    clear hrl hR hK hb hg1 hg2 hkr hcs hred
    go_wp2_with (first
      | ((with_reducible refine gate_store (t := 24) (p := 31) (v := _) rfl ?_); refine wpList_put (w0 := w2) (base := w.heap.size) rfl rfl 24 (.tmp 31) _ rfl k 65 rows (.int .u64 0) cs rfl (by first | rfl | omega) rfl rfl (by kernel_rfl) rfl HR2.out HK.out HRK.out (by decide) ⟨rfl, rfl, rfl, Nat.le_refl _, fun _ _ => rfl⟩ ?_; intro w3 ho hb; have HR3 := Aside0.mk ho; have HB3 := Aside0.mk hb; clear ho hb)
      | ((with_reducible refine gate_store (t := 25) (p := 33) (v := _) rfl ?_); refine wpList_put (w0 := w2) (base := w.heap.size) rfl rfl 25 (.tmp 33) _ rfl k 66 _ (.slice none 0 0) _ rfl (by first | rfl | omega) rfl rfl (by kernel_rfl) rfl HR3.out HK.out (List.getElem?_set_self HKR.out) (by decide) HB3.out ?_; intro w4 ho hb; have HR4 := Aside0.mk ho; have HB4 := Aside0.mk hb; clear ho hb)
      | ((with_reducible refine gate_store (t := 4) (p := 35) (v := _) rfl ?_); refine wpList_put (w0 := w2) (base := w.heap.size) rfl rfl 4 (.tmp 35) _ rfl k 67 _ (.bool true) _ rfl (by first | rfl | omega) rfl rfl (by kernel_rfl) rfl HR4.out HK.out (List.getElem?_set_self (by rw [List.length_set]; exact HKR.out)) (by decide) HB4.out ?_; intro w5 ho hb; have HR5 := Aside0.mk ho; have HB5 := Aside0.mk hb; clear ho hb))
    go_ret2
    have hR5 := HR5.out
    rw [List.set_set, List.set_set] at hR5
    exact ⟨_, rfl, fin_red HRL.out HKK.out HKC.out (HB2.out.trans HB5.out) hR5, HB2.out.trans HB5.out⟩
end Go.Proofs.Ytfpkgdenohcglaa.Chn
/- The walks of a reader's Num, Count and Text. -/
namespace Go.Proofs.Ytfpkgdenohcglaa.Tlv
open Go.Proofs.Ytfpkgdenohcglaa.Base Go.Proofs.Ytfpkgdenohcglaa.TlvPlain Go.RowKit Go.Proofs.YtfpkgdenohcglaaW.PrintWords Go.Proofs.YtfpkgdenohcglaaW.PrintLast Go.Proofs.YtfpkgdenohcglaaW.PrintMore

theorem take1_cons (x : Int) (r : List Int) : takeO (some (x :: r)) 1 = ([x], some r) := by
  simp only [takeO]
  rw [if_pos (by rw [List.length_cons]; omega)]
  rfl
set_option maxHeartbeats 1600000 in
set_option maxRecDepth 100000 in
theorem num_none (w0 w : World) (g : Nat) (st : Option (List Int)) (h : RdO w0 w g st) (hB : Below w0.heap.size w0 w) (hst : takeO st 1 = ([], none)) :
    Calls Try.prog 87 #[.pointer (some ⟨g, 0, none⟩)] w fun e w' => e = .returned (.int .u64 0) ∧ Left w0 w w' g none := by
  have HS := Aside0.mk h
  have HB := Aside0.mk hB
  have E1 := Aside0.mk hst
  clear h hB hst
  go_enter Try.func87, Try.ntmps87
  go_wp2_with (first
    | (go_at_call 92; refine (takeO_ _ _ _ _ _ HS.out HB.out).mono ?_; rintro e w1 ⟨v, rfl, ho, hl⟩; rw [E1.out] at ho hl; have HL := Aside0.mk hl; clear ho hl)
    | (go_at_call 63; refine (okO _ _ _ _ HL.out.1).mono ?_; rintro e w' ⟨rfl, rfl⟩)
    | (go_at_call 101; refine (failO _ _ _ _ HL.out.1 HL.out.2.1).mono ?_; rintro e w2 ⟨rfl, hf⟩; have HF := Aside0.mk hf; clear hf))
  go_ret
  exact ⟨rfl, HL.out.trans HF.out⟩

set_option maxHeartbeats 1600000 in
set_option maxRecDepth 100000 in
theorem num_wide (w0 w : World) (g : Nat) (x : Int) (r : List Int) (h : RdO w0 w g (some (x :: r))) (hB : Below w0.heap.size w0 w) (hx : 8 < x) :
    Calls Try.prog 87 #[.pointer (some ⟨g, 0, none⟩)] w fun e w' => e = .returned (.int .u64 0) ∧ Left w0 w w' g none := by
  have HS := Aside0.mk h
  have HB := Aside0.mk hB
  have E1 := Aside0.mk (take1_cons x r)
  have hd : decide (8 < x) = true := decide_eq_true hx
  clear h hB hx
  go_enter Try.func87, Try.ntmps87
  go_wp2_with (first
    | (go_at_call 92; refine (takeO_ _ _ _ _ _ HS.out HB.out).mono ?_; rintro e w1 ⟨v, rfl, ho, hl⟩; rw [E1.out] at ho hl; have HL := Aside0.mk hl; obtain ⟨A, c, rfl, hlc, hrd⟩ := Ob.reads ho; obtain ⟨ad, rfl, hc0⟩ := Rb.at0 hrd; clear ho hl hrd hlc)
    | (go_at_call 63; refine (okO _ _ _ _ HL.out.1).mono ?_; rintro e w' ⟨rfl, rfl⟩)
    | (go_at_call 101; refine (failO _ _ _ _ HL.out.1 HL.out.2.1).mono ?_; rintro e w2 ⟨rfl, hf⟩; have HF := Aside0.mk hf; clear hf))
  go_ret
  exact ⟨rfl, HL.out.trans HF.out⟩

set_option maxHeartbeats 1600000 in
set_option maxRecDepth 100000 in
theorem num_short (w0 w : World) (g : Nat) (x : Int) (r : List Int) (h : RdO w0 w g (some (x :: r))) (hB : Below w0.heap.size w0 w) (hx0 : 0 ≤ x) (hx : x ≤ 8) (hl : (r.length : Int) < x) :
    Calls Try.prog 87 #[.pointer (some ⟨g, 0, none⟩)] w fun e w' => e = .returned (.int .u64 0) ∧ Left w0 w w' g none := by
  have HS := Aside0.mk h
  have HB := Aside0.mk hB
  have E1 := Aside0.mk (take1_cons x r)
  have E2 := Aside0.mk (show takeO (some r) x = ([], none) by simp only [takeO]; rw [if_neg (by omega)])
  have hd : decide (8 < x) = false := decide_eq_false (by omega)
  clear h hB hl
  go_enter Try.func87, Try.ntmps87
  go_wp2_with (fail)
  refine (takeO_ _ _ _ _ _ HS.out HB.out).mono ?_; rintro e w1 ⟨v, rfl, ho, hl⟩; rw [E1.out] at ho hl; have HL := Aside0.mk hl; obtain ⟨A, c, rfl, hlc, hrd⟩ := Ob.reads ho; obtain ⟨ad, rfl, hc0⟩ := Rb.at0 hrd; clear ho hl hrd hlc
  go_wp2_with (first
    | (go_at_call 63; refine (okO _ _ _ _ HL.out.1).mono ?_; rintro e w' ⟨rfl, rfl⟩)
    | (go_at_call 101; refine (failO _ _ _ _ HL.out.1 HL.out.2.1).mono ?_; rintro e w2 ⟨rfl, hf⟩; have HF := Aside0.mk hf; clear hf))
  refine (takeO_ _ _ _ _ _ HL.out.1 HL.out.2.1).mono ?_; rintro e w2 ⟨v, rfl, ho, hl⟩; rw [E2.out] at ho hl; have HL2 := Aside0.mk (HL.out.trans hl); clear HL ho hl
  go_wp2_with (first
    | (go_at_call 63; refine (okO _ _ _ _ HL2.out.1).mono ?_; rintro e w' ⟨rfl, rfl⟩)
    | (go_at_call 101; refine (failO _ _ _ _ HL2.out.1 HL2.out.2.1).mono ?_; rintro e w2 ⟨rfl, hf⟩; have HF := Aside0.mk hf; clear hf))
  go_ret
  exact ⟨rfl, HL2.out.trans HF.out⟩

set_option maxHeartbeats 1600000 in
set_option maxRecDepth 100000 in
theorem num_zero (w0 w : World) (g : Nat) (x y : Int) (r : List Int) (h : RdO w0 w g (some (x :: y :: r))) (hB : Below w0.heap.size w0 w) (hx0 : 0 < x) (hx : x ≤ 8) (hl : x ≤ (r.length : Int) + 1) (hy : y = 0) :
    Calls Try.prog 87 #[.pointer (some ⟨g, 0, none⟩)] w fun e w' => e = .returned (.int .u64 0) ∧ Left w0 w w' g none := by
  subst hy
  have HS := Aside0.mk h
  have HB := Aside0.mk hB
  have E1 := Aside0.mk (take1_cons x (0 :: r))
  have E2 := Aside0.mk (show takeO (some (0 :: r)) x = (0 :: r.take (x.toNat - 1), some ((0 :: r).drop x.toNat)) by
    simp only [takeO]
    rw [if_pos (by rw [List.length_cons]; omega)]
    obtain ⟨m, hm⟩ : ∃ m, x.toNat = m + 1 := ⟨x.toNat - 1, by omega⟩
    rw [hm]; rfl)
  have hd : decide (8 < x) = false := decide_eq_false (by omega)
  clear h hB hl
  go_enter Try.func87, Try.ntmps87
  go_wp2_with (fail)
  refine (takeO_ _ _ _ _ _ HS.out HB.out).mono ?_; rintro e w1 ⟨v, rfl, ho, hl⟩; rw [E1.out] at ho hl; have HL := Aside0.mk hl; obtain ⟨A, c, rfl, hlc, hrd⟩ := Ob.reads ho; obtain ⟨ad, rfl, hc0⟩ := Rb.at0 hrd; clear ho hl hrd hlc
  go_wp2_with (first
    | (go_at_call 63; refine (okO _ _ _ _ HL.out.1).mono ?_; rintro e w' ⟨rfl, rfl⟩))
  refine (takeO_ _ _ _ _ _ HL.out.1 HL.out.2.1).mono ?_; rintro e w2 ⟨v, rfl, ho, hl⟩; rw [E2.out] at ho hl; have HL2 := Aside0.mk (HL.out.trans hl); obtain ⟨A2, c2, rfl, hlc, hrd⟩ := Ob.reads ho; obtain ⟨ad2, rfl, hc2⟩ := Rb.at0 hrd; clear HL ho hl hlc hrd
  have hl0 : decide (0 < (0 :: r.take (x.toNat - 1)).length) = true := decide_eq_true (by simp)
  generalize (0 :: r.take (x.toNat - 1)).length = nn at hl0 ⊢
  have hl2 : 0 < nn := of_decide_eq_true hl0
  have hl1 : decide (0 < (nn : Int)) = true := decide_eq_true (by omega)
  go_wp2_with (first
    | (go_at_call 63; refine (okO _ _ _ _ HL2.out.1).mono ?_; rintro e w' ⟨rfl, rfl⟩)
    | (go_at_call 101; refine (failO _ _ _ _ HL2.out.1 HL2.out.2.1).mono ?_; rintro e w2 ⟨rfl, hf⟩; have HF := Aside0.mk hf; clear hf))
  go_ret
  exact ⟨rfl, HL2.out.trans HF.out⟩

/-- One round more: the value of one byte more. -/
theorem value_step {l : List Int} (hu : U8 l) (h8 : l.length ≤ 8) (i : Nat) (hi : i < l.length) :
    Go.bits .or .u64 (IntKind.u64.wrap (valueB (l.take i) * 256)) (IntKind.u64.wrap (rd l (i : Int))) = valueB (l.take (i + 1)) := by
  have h1 := valueB_range (hu.take i)
  rw [List.length_take, Nat.min_eq_left (by omega)] at h1
  have h2 := valueB_u64 (hu.take (i + 1)) (by rw [List.length_take]; omega)
  have hx := hu _ (List.getElem_mem hi)
  rw [rd_nat' l i hi, List.take_succ_eq_append_getElem hi, valueB_snoc]
  rw [List.take_succ_eq_append_getElem hi, valueB_snoc] at h2
  have hb : valueB (l.take i) * 256 + 255 ≤ 18446744073709551615 := by
    have key : ∀ n : Nat, n ≤ 7 → (256 : Int) ^ n ≤ 72057594037927936 := by
      intro n hn
      have : n = 0 ∨ n = 1 ∨ n = 2 ∨ n = 3 ∨ n = 4 ∨ n = 5 ∨ n = 6 ∨ n = 7 := by omega
      rcases this with rfl | rfl | rfl | rfl | rfl | rfl | rfl | rfl <;> decide +kernel
    have := key i (by omega)
    omega
  rw [IntWalk.u64_in (valueB (l.take i) * 256) (by omega), IntWalk.u64_in l[i] (by omega)]
  exact or_byte _ _ h1.1 hb hx.1 hx.2

set_option maxHeartbeats 3200000 in
set_option maxRecDepth 100000 in
theorem num_good (w0 w : World) (g : Nat) (x : Int) (r : List Int) (h : RdO w0 w g (some (x :: r))) (hB : Below w0.heap.size w0 w) (hx0 : 0 ≤ x) (hx : x ≤ 8) (hl : x ≤ (r.length : Int)) (hy : ¬ (0 < x ∧ r.getD 0 0 = 0)) :
    Calls Try.prog 87 #[.pointer (some ⟨g, 0, none⟩)] w fun e w' => e = .returned (.int .u64 (valueB (r.take x.toNat))) ∧ Left w0 w w' g (some (r.drop x.toNat)) := by
  have HS := Aside0.mk h
  have HB := Aside0.mk hB
  have HU := Aside0.mk ((h.u8.1.tail).take x.toNat)
  have E1 := Aside0.mk (take1_cons x r)
  have E2 := Aside0.mk (show takeO (some r) x = (r.take x.toNat, some (r.drop x.toNat)) by simp only [takeO]; rw [if_pos ⟨hx0, hl⟩])
  obtain ⟨l, hL⟩ : ∃ l, l = r.take x.toNat := ⟨_, rfl⟩
  have hlen : l.length = x.toNat := by rw [hL, List.length_take]; omega
  have hb : (decide (0 < l.length) && (rd l 0 == 0)) = false := by
    rw [Bool.and_eq_false_iff]
    by_cases h0 : 0 < x
    · right
      rw [beq_eq_false_iff_ne]
      intro e
      apply hy
      refine ⟨h0, ?_⟩
      rw [hL] at e
      obtain ⟨m, hm⟩ : ∃ m, x.toNat = m + 1 := ⟨x.toNat - 1, by omega⟩
      cases r with
      | nil => simp at hl; omega
      | cons y r => simpa [rd, hm] using e
    · left
      exact decide_eq_false (by omega)
  rw [← hL] at HU E2 ⊢
  have h8 : l.length ≤ 8 := by omega
  have hd : decide (8 < x) = false := decide_eq_false (by omega)
  clear h hB hl hy hL hlen
  go_enter Try.func87, Try.ntmps87
  go_wp2_with (fail)
  refine (takeO_ _ _ _ _ _ HS.out HB.out).mono ?_; rintro e w1 ⟨v, rfl, ho, hl⟩; rw [E1.out] at ho hl; have HL := Aside0.mk hl; obtain ⟨A, c, rfl, hlc, hrd⟩ := Ob.reads ho; obtain ⟨ad, rfl, hc0⟩ := Rb.at0 hrd; clear ho hl hrd hlc
  go_wp2_with (first
    | (go_at_call 63; refine (okO _ _ _ _ HL.out.1).mono ?_; rintro e w' ⟨rfl, rfl⟩))
  refine (takeO_ _ _ _ _ _ HL.out.1 HL.out.2.1).mono ?_; rintro e w2 ⟨v, rfl, ho, hl⟩; rw [E2.out] at ho hl; have HL2 := Aside0.mk (HL.out.trans hl); obtain ⟨A2, c2, rfl, hlc, hrd⟩ := Ob.reads ho; have HRD := Aside0.mk hrd; clear HL ho hl hlc hrd hx0
  by_cases hz : 0 < l.length
  · have hzi : (0 : Int) < (l.length : Int) := by omega
    obtain ⟨ad2, hA2, hc2⟩ := Kd.at_int HRD.out 0 (Int.le_refl _) hzi
    subst hA2
    have hz0 : decide (0 < l.length) = true := decide_eq_true hz
    have hz1 : decide (0 < (l.length : Int)) = true := decide_eq_true (by omega)
    have hb1 : (rd l 0 == 0) = false := by rw [hz0, Bool.true_and] at hb; exact hb
    have hc3 : w2.cell? ad2 = some (.int .u8 (rd l 0)) := by simpa [Addr.add] using hc2
    clear hb hc2
    go_wp2_with (first
      | (go_at_call 63; refine (okO _ _ _ _ HL2.out.1).mono ?_; rintro e w' ⟨rfl, rfl⟩))
    clear hz0 hz1 hb1 hc3 hzi
    go_loop [5, 45] (fun n i => ∃ k : Nat, k ≤ l.length ∧ i = .int .i64 k ∧ n = .int .u64 (valueB (l.take k))) (fun _ i => l.length - (intOf i).toNat)
    case atStart => exact ⟨0, Nat.zero_le _, rfl, rfl⟩
    case round =>
      obtain ⟨k, hk, rfl, rfl⟩ := hrel
      by_cases hlt : k < l.length
      · obtain ⟨ad3, hA3, hc3⟩ := Kd.at_int HRD.out (k : Int) (Int.natCast_nonneg k) (by omega)
        injection hA3 with hA3
        subst hA3
        rw [Int.toNat_natCast] at hc3
        have HV := Aside0.mk (value_step HU.out h8 k hlt)
        go_wp2
        go_round
        case rel => exact ⟨k + 1, by omega, by go_num, by rw [← HV.out]⟩
        case measure => simp [intOf]; omega
      · go_wp2
        go_ret
        have hkl : k = l.length := by omega
        exact ⟨by rw [hkl, List.take_length]; rfl, HL2.out⟩
  · have hz0 : decide (0 < l.length) = false := decide_eq_false hz
    have hl0 : l = [] := List.length_eq_zero_iff.1 (by omega)
    subst hl0
    clear hb hz hz0 h8
    have hf0 : decide ((0 : Int) < 0) = false := rfl
    go_wp2_with (first
      | (go_at_call 63; refine (okO _ _ _ _ HL2.out.1).mono ?_; rintro e w' ⟨rfl, rfl⟩))
    go_loop [5, 45] (fun n i => i = .int .i64 0 ∧ n = .int .u64 0) (fun _ _ => 0)
    case atStart => exact ⟨rfl, rfl⟩
    case round =>
      obtain ⟨rfl, rfl⟩ := hrel
      go_wp2
      go_ret
      exact ⟨rfl, HL2.out⟩

theorem numO_ (w0 w : World) (g : Nat) (st : Option (List Int)) (h : RdO w0 w g st) (hB : Below w0.heap.size w0 w) :
    Calls Try.prog 87 #[.pointer (some ⟨g, 0, none⟩)] w fun e w' => e = .returned (.int .u64 (numO st).1) ∧ Left w0 w w' g (numO st).2 := by
  match st, h with
  | none, h => exact num_none w0 w g none h hB rfl
  | some [], h => exact num_none w0 w g (some []) h hB rfl
  | some (x :: r), h =>
    have hx0 := h.u8.1.head.1
    simp only [numO]
    by_cases h1 : x > 8
    · rw [if_pos h1]; exact num_wide w0 w g x r h hB h1
    · rw [if_neg h1]
      by_cases h2 : (r.length : Int) < x
      · rw [if_pos h2]; exact num_short w0 w g x r h hB hx0 (by omega) h2
      · rw [if_neg h2]
        by_cases h3 : 0 < x ∧ r.getD 0 0 = 0
        · rw [if_pos h3]
          cases r with
          | nil => simp at h2; omega
          | cons y r => exact num_zero w0 w g x y r h hB h3.1 (by omega) (by simp at h2; omega) (by simpa using h3.2)
        · rw [if_neg h3]; exact num_good w0 w g x r h hB hx0 (by omega) (by omega) h3


set_option maxHeartbeats 1600000 in
set_option maxRecDepth 100000 in
theorem countO_ (w0 w : World) (g : Nat) (st : Option (List Int)) (most : Int) (h : RdO w0 w g st) (hB : Below w0.heap.size w0 w) (hm : most ≤ 9223372036854775807) :
    Calls Try.prog 86 #[.pointer (some ⟨g, 0, none⟩), .int .i64 most] w fun e w' => e = .returned (.int .i64 (countO st most).1) ∧ Left w0 w w' g (countO st most).2 := by
  have HS := Aside0.mk h
  have HB := Aside0.mk hB
  have hr := numO_range (st := st) (fun bs e => by subst e; exact h.u8.1)
  unfold countO
  obtain ⟨nv, hnv⟩ : ∃ nv, nv = (numO st).1 := ⟨_, rfl⟩
  rw [← hnv] at hr ⊢
  have HN := Aside0.mk hnv
  have HR := Aside0.mk hr
  have HM := Aside0.mk hm
  clear hm
  clear hr hnv h hB
  by_cases h1 : most < 0
  · rw [if_pos (Or.inl h1)]
    have hd : decide (most < 0) = true := decide_eq_true h1
    clear h1
    go_enter Try.func86, Try.ntmps86
    go_wp2_with (first
      | (go_at_call 87; refine (numO_ _ _ _ _ HS.out HB.out).mono ?_; rintro e w1 ⟨rfl, hl⟩; rw [← HN.out]; have HL := Aside0.mk hl; clear hl)
      | (go_at_call 101; refine (failO _ _ _ _ HL.out.1 HL.out.2.1).mono ?_; rintro e w2 ⟨rfl, hf⟩; have HF := Aside0.mk hf; clear hf))
    go_ret
    exact ⟨rfl, HL.out.trans HF.out⟩
  · have hd : decide (most < 0) = false := decide_eq_false h1
    have hw : IntKind.u64.wrap most = most := IntWalk.u64_in _ (by have := HM.out; omega)
    by_cases h2 : nv > most
    · rw [if_pos (Or.inr h2)]
      have hd2 : decide (most < nv) = true := decide_eq_true h2
      clear h1 h2
      go_enter Try.func86, Try.ntmps86
      go_wp2_with (first
        | (go_at_call 87; refine (numO_ _ _ _ _ HS.out HB.out).mono ?_; rintro e w1 ⟨rfl, hl⟩; rw [← HN.out]; have HL := Aside0.mk hl; clear hl)
        | (go_at_call 101; refine (failO _ _ _ _ HL.out.1 HL.out.2.1).mono ?_; rintro e w2 ⟨rfl, hf⟩; have HF := Aside0.mk hf; clear hf))
      go_ret
      exact ⟨rfl, HL.out.trans HF.out⟩
    · rw [if_neg (by omega)]
      have hd2 : decide (most < nv) = false := decide_eq_false h2
      have hv : wrap64 nv = nv := IntWalk.wrap64_in _ (by have := HM.out; have := HR.out; omega)
      clear h1 h2
      go_enter Try.func86, Try.ntmps86
      go_wp2_with (first
        | (go_at_call 87; refine (numO_ _ _ _ _ HS.out HB.out).mono ?_; rintro e w1 ⟨rfl, hl⟩; rw [← HN.out]; have HL := Aside0.mk hl; clear hl))
      go_ret
      exact ⟨by rw [← HN.out, hv]; rfl, HL.out⟩

set_option maxHeartbeats 800000 in
theorem textO_ (w0 w : World) (g : Nat) (st : Option (List Int)) (most : Int) (h : RdO w0 w g st) (hB : Below w0.heap.size w0 w) (hm : most ≤ 9223372036854775807) :
    Calls Try.prog 88 #[.pointer (some ⟨g, 0, none⟩), .int .i64 most] w fun e w' => ∃ v, e = .returned v ∧ Ob w' w.heap.size v (textO st most).1 ∧ Left w0 w w' g (textO st most).2 := by
  have HS := Aside0.mk h
  have HB := Aside0.mk hB
  have HM := Aside0.mk hm
  clear hm h hB
  go_enter Try.func88, Try.ntmps88
  go_wp2_with (first
    | (go_at_call 86; refine (countO_ _ _ _ _ _ HS.out HB.out HM.out).mono ?_; rintro e w1 ⟨rfl, hl⟩; have HL := Aside0.mk hl; clear hl)
    | (go_at_call 92; refine (takeO_ _ _ _ _ _ HL.out.1 HL.out.2.1).mono ?_; rintro e w2 ⟨v, rfl, ho, hl⟩; have HO := Aside0.mk ho; have HT := Aside0.mk hl; clear hl ho))
  go_ret
  exact ⟨_, rfl, Kd.R_lower HO.out HL.out.2.2.1, HL.out.trans HT.out⟩
end Go.Proofs.Ytfpkgdenohcglaa.Tlv
/- chain.sum walked: the next sum of a reader. -/
namespace Go.Proofs.Ytfpkgdenohcglaa.Chn
set_option linter.unusedVariables false
set_option linter.unusedSimpArgs false
open Go.RowKit Go.Proofs.Ytfpkgdenohcglaa.Lo Go.Proofs.Ytfpkgdenohcglaa.RdPlain Go.Proofs.Ytfpkgdenohcglaa.Base Go.Proofs.Ytfpkgdenohcglaa.TlvPlain Go.Proofs.Ytfpkgdenohcglaa.ShaPlain Go.Proofs.Ytfpkgdenohcglaa.Sha Go.Proofs.Ytfpkgdenohcglaa.Com Go.Proofs.Ytfpkgdenohcglaa.Aid Go.Proofs.YtfpkgdenohcglaaW.PrintWords Go.Proofs.YtfpkgdenohcglaaW.PrintLast Go.Proofs.YtfpkgdenohcglaaW.PrintMore
open Tlv (RdO takeO_ okO numO_ textO_ leftO_ newO)
attribute [local irreducible] shaB
theorem left_below {w0 w W W1 : World} {g : Nat} {s : Option (List Int)} (h : Tlv.Left w0 w W g s) (hb : Below W.heap.size W W1) : Tlv.Left w0 w W1 g s := ⟨h.1.below hb, below_step h.2.1 hb, h.2.2.trans (KeepBut.of_below hb g none) (.inl rfl)⟩
theorem left_grown {w0 w W W1 : World} {g : Nat} {s : Option (List Int)} {row : Option Nat} (h : Tlv.Left w0 w W g s) (hb : Below w.heap.size W W1) (hg : W.grownBy W1 row) (hr : ∀ b, row = some b → g < b ∧ w0.heap.size ≤ b) (h0 : w0.heap.size ≤ w.heap.size) : Tlv.Left w0 w W1 g s :=
  ⟨h.1.grown hg (fun b e => (hr b e).1), h.2.1.trans (hb.mono h0), Nat.le_trans h.2.2.1 hb.size, fun i hi h1 h2 => (hb.block i hi).trans (h.2.2.2 i hi h1 h2)⟩
theorem grown_setRow (W : World) (g : Nat) (D : Array Value) : W.grownBy (W.setRow g D) (some g) := by
  have h := below_setRow (Below.refl 0 W) (Nat.zero_le g) D
  exact ⟨h.os, h.tape, h.output, h.size, fun k _ hk => setRow_other _ _ _ _ (fun e => hk (by rw [e]))⟩
/-- A row of bytes that is read, cell by cell. -/
theorem rb_cells {w : World} {ad : Addr} {d : List Int} (h : Rb w (some ad) d) : AtC w ad (nums .u8 d) := fun j v hj => by
  unfold nums at hj
  rw [List.getElem?_map] at hj
  obtain ⟨x, hx, rfl⟩ := Option.map_eq_some_iff.1 hj
  obtain ⟨a, ha, hc⟩ := h.2.2 (by have := (List.getElem?_eq_some_iff.1 hx).1; omega)
  cases ha
  obtain ⟨cs, hl, hK, hat⟩ := hc j x hx
  have h2 := hat 0 (.int .u8 x) (by rw [show cs = [Value.int .u8 x] from hK]; rfl)
  rw [show j * (Kd.int .u8).sz + 0 = j from by show j * 1 + 0 = j; omega] at h2
  exact h2
section
variable {o : Oper} {a : Act} {Q : Exit → Act → World → Prop} {Kc : Act → World → Prop} {W : World}
theorem run_copy_b (w : World) (ty : TypeId) (g sCap : Nat) (sd : Addr) (cur : Array Value) (t : TypeId) (cs : List Value)
    (hg : w.heap[g]? = some (.cells cur t (0, 0))) (hn : cs.length = 32) (hsrc : AtC w sd cs) (hfit : cs.length ≤ cur.size) (h1 : ∀ v ∈ cs, v.oneCell' = true) :
    (Builtin.copy_ #[25, 25] ty #[.slice (some ⟨g, 0, none⟩) 32 32, .slice (some sd) 32 sCap]).run Try.prog w =
      .ok (goInt 32) (w.setRow g (cs ++ cur.toList.drop cs.length).toArray) := by
  have hl := run_loadCells_list (P := Try.prog) w sd cs hsrc
  have hst := run_storeCells_at Try.prog g 0 t cs 0 cur w hg (by simpa using hfit) h1
  obtain ⟨i, hi, hz, hs, hb⟩ := info_parts info_u8
  rw [hn] at hl
  simp [Builtin.copy_, run_underlying Try.underlying25, Builtin.lenOf, Builtin.firstCells, sizeOf, typeInfo, hi, hs, hl, hst]
theorem run_copy_b0 (w : World) (ty : TypeId) (d s : Option Addr) (n dCap sCap : Nat) :
    (Builtin.copy_ #[25, 25] ty #[.slice d n dCap, .slice s 0 sCap]).run Try.prog w = .ok (goInt 0) w := by
  have hl : ∀ (x : Addr), (loadCells x 0).run Try.prog w = .ok #[] w := fun x => by simpa using run_loadCells_list (P := Try.prog) w x [] (by simp)
  obtain ⟨i, hi, hz, hs, hb⟩ := info_parts info_u8
  cases d <;> cases s <;> simp [Builtin.copy_, run_underlying Try.underlying25, Builtin.lenOf, Builtin.firstCells, sizeOf, typeInfo, hi, storeCells, hl]
/-- copy(d[:], b): 32 bytes, or none. -/
theorem wp_copy_sum (d s : Operand) (ho : o.op = .call { callee := .builtin .copy, args := #[d, s], argTypes := #[25, 25] }) (g c : Nat) (A : Option Addr) (xs : List Int)
    (hd : a.eval d = .slice (some ⟨g, 0, none⟩) 32 32) (hs : a.eval s = .slice A xs.length c) (hg : W.heap[g]? = some (.cells Z32 23 (0, 0))) (hl : xs.length = 0 ∨ xs.length = 32) (hr : Rb W A xs)
    (k : ∀ (W' : World) (n : Int), W.grownBy W' (some g) → W'.heap[g]? = some (.cells (nums .u8 (if xs.length = 32 then xs else Z)).toArray 23 (0, 0)) → Kc (a.put o.dst (.int .i64 n)) W') : Oper.wp Try.prog o a W Kc Q := by
  rcases hl with hl | hl
  · have hrun := run_copy_b0 W o.type (some ⟨g, 0, none⟩) A 32 32 c
    rw [hl] at hs
    have h2 := k W 0 (World.grownBy.refl W _) (by rw [if_neg (by omega)]; exact hg)
    unfold Oper.wp execOp
    simp only [ho, resolve, invoke, builtin, Sem.run_bind, Sem.run_pure, Result.andThen_ok, List.map_toArray, List.map_cons, List.map_nil, hd, hs, hrun]
    exact h2
  · obtain ⟨sd, rfl, _⟩ := hr.2.2 (by omega)
    have hn : (nums .u8 xs).length = 32 := by simp [nums, hl]
    have hrun := run_copy_b W o.type g c sd Z32 23 (nums .u8 xs) hg hn (rb_cells hr) (by rw [hn]; decide) (fun v hv => by obtain ⟨y, _, rfl⟩ := List.mem_map.1 hv; rfl)
    rw [show nums .u8 xs ++ Z32.toList.drop (nums .u8 xs).length = nums .u8 xs from by rw [hn, List.drop_of_length_le (by simp [Z32, nums]), List.append_nil]] at hrun
    have h2 := k _ 32 (grown_setRow W g (nums .u8 xs).toArray) (by rw [if_pos hl]; exact setRow_heap _ _ _ _ _ _ hg)
    rw [hl] at hs
    unfold Oper.wp execOp
    simp only [ho, resolve, invoke, builtin, Sem.run_bind, Sem.run_pure, Result.andThen_ok, List.map_toArray, List.map_cons, List.map_nil, hd, hs, hrun]
    exact h2
end
theorem take32 (st : Option (List Int)) : (takeO st 32).1.length = 0 ∨ (takeO st 32).1.length = 32 := by
  unfold takeO
  split
  · split
    · right; rw [List.length_take]; omega
    · exact Or.inl rfl
  · exact Or.inl rfl
set_option maxHeartbeats 4000000 in
set_option maxRecDepth 100000 in
theorem sum_c (w0 w : World) (g : Nat) (st : Option (List Int)) (h : RdO w0 w g st) (hB : Below w0.heap.size w0 w) :
    Calls Try.prog 62 #[.pointer (some ⟨g, 0, none⟩)] w fun e w' => e = .returned (sumV (sumO st).1) ∧ Tlv.Left w0 w w' g (sumO st).2 := by
  have h32 := take32 st
  obtain ⟨D, hD⟩ := sumC (sumO st).1 (sumO_len st)
  rw [hD.v]
  have HD := Aside0.mk hD
  have HG := Aside0.mk (And.intro h.blk.2.1 hB.size)
  have hs1 : (sumO st).1 = if (takeO st 32).1.length = 32 then (takeO st 32).1 else Z := rfl
  have hs2 : (sumO st).2 = (takeO st 32).2 := rfl
  have HW : Below w.heap.size w ((w.alloc (.cells Z32 23)).alloc (.cells Z32 23)) := below_alloc (below_alloc (Below.refl _ _) _) _
  have HL0 := Aside0.mk (show Tlv.Left w0 w ((w.alloc (.cells Z32 23)).alloc (.cells Z32 23)) g st from left_below (Tlv.Left.refl h hB) HW)
  have HY2 := Aside0.mk (show ((w.alloc (.cells Z32 23)).alloc (.cells Z32 23)).heap[w.heap.size]? = some (.cells Z32 23 (0, 0)) from blk_alloc (blk_new _ _) _)
  have HY3 := Aside0.mk (show ((w.alloc (.cells Z32 23)).alloc (.cells Z32 23)).heap[w.heap.size + 1]? = some (.cells Z32 23 (0, 0)) from second_new' _ _ _)
  have HTK := Aside0.mk (fun V (hV : Tlv.Left w0 w V g st) => takeO_ w0 V g st 32 hV.1 hV.2.1)
  obtain ⟨X, hX⟩ : ∃ X, (takeO st 32).1 = X := ⟨_, rfl⟩
  obtain ⟨s1, hs⟩ : ∃ X, (takeO st 32).2 = X := ⟨_, rfl⟩
  rw [hX] at h32 hs1 HTK
  rw [hs] at hs2 HTK
  rw [hs2]
  rw [hs1] at HD
  have H32 := Aside0.mk h32
  clear h32 hD h hB hs1 hs2 hX hs HW
  go_enter Try.func62, Try.ntmps62
  go_upto_region 2 with (fail)
  obtain ⟨W2, hW2⟩ : ∃ V, (w.alloc (.cells Z32 23)).alloc (.cells Z32 23) = V := ⟨_, rfl⟩
  rw [hW2] at HL0 HY2 HY3
  rw [show (w.alloc (.cells #[.int .u8 0, .int .u8 0, .int .u8 0, .int .u8 0, .int .u8 0, .int .u8 0, .int .u8 0, .int .u8 0, .int .u8 0, .int .u8 0, .int .u8 0, .int .u8 0, .int .u8 0, .int .u8 0, .int .u8 0, .int .u8 0, .int .u8 0, .int .u8 0, .int .u8 0, .int .u8 0, .int .u8 0, .int .u8 0, .int .u8 0, .int .u8 0, .int .u8 0, .int .u8 0, .int .u8 0, .int .u8 0, .int .u8 0, .int .u8 0, .int .u8 0, .int .u8 0] 23)).alloc (.cells #[.int .u8 0, .int .u8 0, .int .u8 0, .int .u8 0, .int .u8 0, .int .u8 0, .int .u8 0, .int .u8 0, .int .u8 0, .int .u8 0, .int .u8 0, .int .u8 0, .int .u8 0, .int .u8 0, .int .u8 0, .int .u8 0, .int .u8 0, .int .u8 0, .int .u8 0, .int .u8 0, .int .u8 0, .int .u8 0, .int .u8 0, .int .u8 0, .int .u8 0, .int .u8 0, .int .u8 0, .int .u8 0, .int .u8 0, .int .u8 0, .int .u8 0, .int .u8 0] 23) = W2 from hW2]
  clear hW2
  refine wp_region_held_drew (S := fun _ => True) (by kernel_rfl) trivial (fun hHeld => ?_)
  (refine wpAnyH_take (i := 0) (v := ?_) rfl (by kernel_rfl) (by kernel_rfl) (by kernel_rfl) (fun _ _ _ h => h) (Or.inl ⟨by rfl, ?_⟩) (by assumption) ?_; (case' refine_2 => (intro w hSw; go_simp; try with_reducible rfl)); (try simp only [Act.put, List.getElem_toArray, List.getElem_cons_zero, List.getElem_cons_succ, List.setIfInBounds_toArray, List.set_cons_zero, List.set_cons_succ]))
  (refine wpAnyH_take (i := 1) (v := ?_) rfl (by kernel_rfl) (by kernel_rfl) (by kernel_rfl) (fun _ _ _ h => h) (Or.inl ⟨by rfl, ?_⟩) (by assumption) ?_; (case' refine_2 => (intro w hSw; go_simp; try with_reducible rfl)); (try simp only [Act.put, List.getElem_toArray, List.getElem_cons_zero, List.getElem_cons_succ, List.setIfInBounds_toArray, List.set_cons_zero, List.set_cons_succ]))
  (refine wpAnyH_ready (rs := [2]) (by kernel_rfl) (by simp) (AllReadyH.cons rfl (fun K hK => ?_) AllReadyH.nil); go_simp)
  refine (HTK.out _ (left_below HL0.out (below_drew1 (Below.refl _ _)))).mono ?_
  rintro e w3 ⟨v, rfl, ho, hl⟩
  obtain ⟨A3, c3, rfl, hc3, hr3⟩ := Kd.R_reads ho
  have HR3 := Aside0.mk (show Rb w3 A3 X from hr3)
  have HL3 := Aside0.mk ((left_below HL0.out (below_drew1 (Below.refl _ _))).trans hl)
  have HZ2 := Aside0.mk (hl.2.2.blk (show W2.drew.heap[w.heap.size]? = some (.cells Z32 23 (0, 0)) from HY2.out) (by have := HG.out.1; omega) (by simp))
  have HZ3 := Aside0.mk (hl.2.2.blk (show W2.drew.heap[w.heap.size + 1]? = some (.cells Z32 23 (0, 0)) from HY3.out) (by have := HG.out.1; omega) (by simp))
  clear ho hl hc3 hr3
  (refine Shut.out hK _ _ trivial (fun hHeld => ?_); clear hK K; (try simp only [Act.put, List.getElem_toArray, List.getElem_cons_zero, List.getElem_cons_succ, List.setIfInBounds_toArray, List.set_cons_zero, List.set_cons_succ]))
  refine wpAnyH_ready (rs := [3]) (by kernel_rfl) (by simp) (AllReadyH.cons rfl (fun K hK => ?_) AllReadyH.nil)
  refine wp_copy_sum (.tmp 4) (.tmp 6) rfl (w.heap.size + 1) c3 A3 X rfl rfl HZ3.out H32.out HR3.out ?_
  intro w4 n4 hg hb4
  have HL4 := Aside0.mk (left_grown HL3.out (show Below w.heap.size w3 w4 from ⟨hg.os, hg.tape, hg.output, hg.size, fun k hk => hg.block k (Nat.lt_of_lt_of_le hk HL3.out.2.2.1) (fun e => by injection e with e; omega)⟩) hg (fun b e => by injection e with e; subst e; have := HG.out; exact ⟨by omega, by omega⟩) HG.out.2)
  have HZ4 := Aside0.mk ((hg.block w.heap.size (by have := HL3.out.2.2.1; have := blk_lt HZ2.out; omega) (fun e => by injection e with e; omega)).trans HZ2.out)
  have HA4 := Aside0.mk (show AtC w4 ⟨w.heap.size + 1, 0, none⟩ D from by rw [← HD.out.eq]; exact atC_blk hb4)
  have HI := Aside0.mk HD.out.blk
  clear hg hb4
  (refine Shut.out hK _ _ trivial (fun hHeld => ?_); clear hK K; (try simp only [Act.put, List.getElem_toArray, List.getElem_cons_zero, List.getElem_cons_succ, List.setIfInBounds_toArray, List.set_cons_zero, List.set_cons_succ]))
  refine wpAnyH_done (by kernel_rfl) ?_ _
  go_wp2_with (first
    | ((with_reducible refine gate_dst (N := 8) rfl ?_); refine wpList_load_at rfl 23 (.tmp 3) rfl ⟨w.heap.size + 1, 0, none⟩ rfl D _ HA4.out Try.underlying23 rfl HI.out ?_)
    | ((with_reducible refine gate_store (t := 23) (p := 2) (v := .tmp 8) rfl ?_); refine wpList_store_row rfl 23 (.tmp 2) (.tmp 8) rfl w.heap.size D.toArray rfl rfl 23 Z32 HZ4.out HD.out.blkA HD.out.zsA HD.out.oneA ?_))
  have HSR := setRow_heap w4 w.heap.size Z32 D.toArray _ _ HZ4.out
  refine bodyPost_ret (v := .agg D.toArray) (results_cell_row rfl _ _ w.heap.size 23 D.toArray (0, 0) _ rfl HSR Try.underlying23 rfl HD.out.blkA) rfl ⟨rfl, ?_⟩
  exact left_grown HL4.out (below_setRow (Below.refl _ _) (Nat.le_refl _) _) (grown_setRow _ _ _) (fun b e => by injection e with e; subst e; exact HG.out) HG.out.2
end Go.Proofs.Ytfpkgdenohcglaa.Chn
/- The document's Same. -/
namespace Go.Proofs.Ytfpkgdenohcglaa.Chn
set_option linter.unusedVariables false
set_option linter.unusedSimpArgs false
open Go.RowKit Go.Proofs.Ytfpkgdenohcglaa.Base Go.Proofs.Ytfpkgdenohcglaa.TlvPlain Go.Proofs.Ytfpkgdenohcglaa.ShaPlain Go.Proofs.Ytfpkgdenohcglaa.Sha Go.Proofs.Ytfpkgdenohcglaa.Com Go.Proofs.Ytfpkgdenohcglaa.Aid Go.Proofs.YtfpkgdenohcglaaW.PrintWords Go.Proofs.YtfpkgdenohcglaaW.PrintLast Go.Proofs.YtfpkgdenohcglaaW.PrintMore
theorem wp_alloc_e {o : Oper} {a : Act} {Q : Exit → Act → World → Prop} {K : Act → World → Prop} {w : World} (ho : o.op = .alloc 27)
    (h : K (a.put o.dst (.pointer (some ⟨w.heap.size, 0, none⟩))) (w.alloc (.cells zE.toArray 27))) : Oper.wp Try.prog o a w K Q := by
  obtain ⟨i, hi, hz, hs, hb⟩ := info_parts info_ent3
  rw [zE_z] at h
  have hrun : (Instr.alloc 27 true (.tuple #[])).run Try.prog w = .ok (.pointer (some ⟨w.heap.size, 0, none⟩)) (w.alloc (.cells Try.zeroCells27 27)) := by
    simp [Instr.alloc, zeroValue, typeInfo, hi, hz, newVar, newRow, Value.cells]
  unfold Oper.wp execOp
  simp only [ho, Sem.run_bind, hrun, Result.andThen_ok]
  exact h
theorem ent_ext {x y : Ent} (h0 : seqE x = seqE y) (h1 : prevE x = prevE y) (h2 : comE x = comE y) (h3 : saltE x = saltE y) (h4 : redE x = redE y) (h5 : payE x = payE y) : x = y :=
  Prod.ext h0 (Prod.ext h1 (Prod.ext h2 (Prod.ext h3 (Prod.ext h5 h4))))
set_option maxHeartbeats 4000000 in
set_option maxRecDepth 100000 in
theorem esame_c (a b : List Ent) (A0 A1 : Option Addr) (c0 c1 : Nat) (w : World) (h0 : Re w A0 a) (h1 : Re w A1 b) (hl : a.length ≤ 1000000) (hl2 : b.length ≤ 1000000) (hs : ∀ x ∈ a, (payE x).length ≤ 1000000) (ha : Lu' a) (hb : Lu' b) :
    Calls Try.prog 20 #[.slice A0 a.length c0, .slice A1 b.length c1] w (RetB w (decide (a = b))) := by
  unfold RetB
  have H0 := Aside0.mk h0
  have H1 := Aside0.mk h1
  have HS := Aside0.mk (And.intro hs (And.intro ha hb))
  have HB := Aside0.mk (Below.refl w.heap.size w)
  by_cases hn : a.length = b.length
  · obtain ⟨m, hm⟩ : ∃ m, a.length = m := ⟨_, rfl⟩
    have hm2 : b.length = m := by omega
    rw [hm, hm2]
    have HM := Aside0.mk hm
    have HM2 := Aside0.mk hm2
    rw [hm] at hl
    have q0 : (m : Int) ≤ 1000000 := by omega
    have q1 : ((m : Int) != (m : Int)) = false := by simp
    clear h0 h1 hn hm hm2 hl2 hl hs ha hb
    go_enter Try.func20, Try.ntmps20
    go_wp2_with (fail)
    go_loopw [5, 6, 7] (fun i _ _ wr => ∃ k : Nat, k ≤ m ∧ i = .int .i64 k ∧ Aside0 (a.take k = b.take k) ∧ Below w.heap.size w wr) (fun i _ _ _ => m - (intOf i).toNat)
    case atStart => exact ⟨0, Nat.zero_le _, rfl, ⟨rfl⟩, HB.out⟩
    case round =>
      clear HB
      obtain ⟨k, hk, rfl, HTK, hb⟩ := hrel
      have HB := Aside0.mk hb
      clear hb
      obtain ⟨W, hwy⟩ : ∃ wy, wy = wr := ⟨_, rfl⟩
      subst hwy
      by_cases hlt : k < m
      · have hka : k < a.length := by have := HM.out; omega
        have hkb : k < b.length := by have := HM2.out; omega
        obtain ⟨ad0, P, C, B, cb, rfl, hat, hC⟩ := re_at H0.out k hka
        obtain ⟨ad1, P', C', B', cb', rfl, hat', hC'⟩ := re_at H1.out k hkb
        have hEx := HS.out.2.1 _ (List.getElem_mem hka)
        have hEy := HS.out.2.2 _ (List.getElem_mem hkb)
        have hpl := HS.out.1 _ (List.getElem_mem hka)
        have HX := Aside0.mk (take_snoc a k hka)
        have HY := Aside0.mk (take_snoc b k hkb)
        have hgx : a[k]? = some a[k] := List.getElem?_eq_getElem hka
        have hgy : b[k]? = some b[k] := List.getElem?_eq_getElem hkb
        obtain ⟨x, hxx⟩ : ∃ x, a[k] = x := ⟨_, rfl⟩
        obtain ⟨y, hyy⟩ : ∃ y, b[k] = y := ⟨_, rfl⟩
        rw [hxx] at hat hC hEx hpl HX hgx
        rw [hyy] at hat' hC' hEy HY hgy
        have HNE := Aside0.mk (fun (h : x ≠ y) => show a ≠ b from fun e => h (Option.some.inj (hgx.symm.trans ((congrArg (fun l => l[k]?) e).trans hgy))))
        have HSM := Aside0.mk (fun V (hV : Below w.heap.size w V) => Lo.same_c B cb (payE x) B' cb' (payE y) V (Kd.C_below hC.r hV) hC.hc (Kd.C_below hC'.r hV) hC'.hc (by omega))
        have HP := Aside0.mk (run_eq_sum (prevE x) (prevE y) hEx.pl hEy.pl)
        have HC := Aside0.mk (run_eq_sum (comE x) (comE y) hEx.cl hEy.cl)
        rw [hC.fp.v, hC'.fp.v] at HP
        rw [hC.fc.v, hC'.fc.v] at HC
        have HI := Aside0.mk (And.intro hC.fp.blk (And.intro hC.fc.blk (And.intro hC'.fp.blk hC'.fc.blk)))
        obtain ⟨bp, hbp⟩ : ∃ v, decide (prevE x = prevE y) = v := ⟨_, rfl⟩
        obtain ⟨bc, hbc⟩ : ∃ v, decide (comE x = comE y) = v := ⟨_, rfl⟩
        obtain ⟨by_, hby⟩ : ∃ v, decide (payE x = payE y) = v := ⟨_, rfl⟩
        rw [hbp] at HP
        rw [hbc] at HC
        rw [hby] at HSM
        have HBP := Aside0.mk hbp
        have HBC := Aside0.mk hbc
        have HBY := Aside0.mk hby
        have HMK := Aside0.mk (fun (V : World) (g6 g7 : Nat) (h6 : V.heap[g6]? = some (.cells (cE x P C B cb).toArray 27 (0, 0))) (h7 : V.heap[g7]? = some (.cells (cE y P' C' B' cb').toArray 27 (0, 0))) =>
          And.intro (entAt_blk hC.fp.lenC hC.fc.lenC h6) (entAt_blk hC'.fp.lenC hC'.fc.lenC h7))
        have HIX := Aside0.mk (show (Try.prog.info? 27).map (·.size) = some (cE x P C B cb).toArray.size from by rw [List.size_toArray]; exact hC.info)
        have HIY := Aside0.mk (show (Try.prog.info? 27).map (·.size) = some (cE y P' C' B' cb').toArray.size from by rw [List.size_toArray]; exact hC'.info)
        have HIXL := Aside0.mk hC.info
        have HIYL := Aside0.mk hC'.info
        have HOX := Aside0.mk hC.one
        have HOY := Aside0.mk hC'.one
        have HXL := Aside0.mk hC.len
        have HYL := Aside0.mk hC'.len
        have HALL := Aside0.mk (fun V (hV : Below W.heap.size W V) => show AtC V (ad0.add (k * 68)) (cE x P C B cb) ∧ AtC V (ad1.add (k * 68)) (cE y P' C' B' cb') from And.intro ((hat.below HB.out).below hV) ((hat'.below HB.out).below hV))
        obtain ⟨X, hX⟩ : ∃ X, cE x P C B cb = X := ⟨_, rfl⟩
        obtain ⟨Y, hY⟩ : ∃ Y, cE y P' C' B' cb' = Y := ⟨_, rfl⟩
        rw [hX] at HMK HIX HIXL HOX HXL HALL
        rw [hY] at HMK HIY HIYL HOY HYL HALL
        have hk0 : (0 : Int) ≤ (k : Int) := by omega
        have hk1 : (k : Int) < (m : Int) := by omega
        have hguard := guard_32
        have hu24 := Try.underlying23
        have hu27 := Try.underlying27
        have HK := Aside0.mk hlt
        clear hat hat' hC hC' hEx hEy hpl hgx hgy hxx hyy hbp hbc hby hX hY hlt hk hka hkb
        go_wp2_with (fail)
        refine wp_region_held_drew (S := fun w' => AtC w' (ad0.add (k * 68)) X ∧ AtC w' (ad1.add (k * 68)) Y) (by kernel_rfl) (HALL.out _ (below_drew1 (Below.refl _ _))) (fun hHeld => ?_)
        (refine wpAnyH_take (i := 0) (v := ?_) rfl (by kernel_rfl) (by kernel_rfl) (by kernel_rfl) (fun _ _ _ h => h) (Or.inl ⟨by rfl, ?_⟩) (by assumption) ?_; (case' refine_2 => (intro w hSw; go_simp; try with_reducible rfl)); (try simp only [Act.put, List.getElem_toArray, List.getElem_cons_zero, List.getElem_cons_succ, List.setIfInBounds_toArray, List.set_cons_zero, List.set_cons_succ]))
        (refine wpAnyH_take (i := 1) (v := ?_) rfl (by kernel_rfl) (by kernel_rfl) (by kernel_rfl) (fun _ _ _ h => h) (Or.inl ⟨by rfl, ?_⟩) (by assumption) ?_; (case' refine_2 => (intro w hSw; go_simp; try with_reducible rfl)); (try simp only [Act.put, List.getElem_toArray, List.getElem_cons_zero, List.getElem_cons_succ, List.setIfInBounds_toArray, List.set_cons_zero, List.set_cons_succ]))
        (refine wpAnyH_take (i := 2) (v := ?_) rfl (by kernel_rfl) (by kernel_rfl) (by kernel_rfl) (fun _ _ _ h => h) (Or.inl ⟨by rfl, ?_⟩) (by assumption) ?_; (case' refine_2 => (intro w hSw; go_simp; try with_reducible rfl)); (try simp only [Act.put, List.getElem_toArray, List.getElem_cons_zero, List.getElem_cons_succ, List.setIfInBounds_toArray, List.set_cons_zero, List.set_cons_succ]))
        (refine wpAnyH_take (i := 3) rfl (by kernel_rfl) (by kernel_rfl) (by kernel_rfl) (fun _ _ _ h => h) (yieldsIf_load_at (by rfl) _ _ rfl (ad0.add (k * 68)) rfl X _ (fun _ h => h.1) (by assumption) rfl HIXL.out) (by assumption) ?_; (try simp only [Act.put, List.getElem_toArray, List.getElem_cons_zero, List.getElem_cons_succ, List.setIfInBounds_toArray, List.set_cons_zero, List.set_cons_succ]))
        (refine wpAnyH_take (i := 4) (v := ?_) rfl (by kernel_rfl) (by kernel_rfl) (by kernel_rfl) (fun _ _ _ h => h) (Or.inl ⟨by rfl, ?_⟩) (by assumption) ?_; (case' refine_2 => (intro w hSw; go_simp; try with_reducible rfl)); (try simp only [Act.put, List.getElem_toArray, List.getElem_cons_zero, List.getElem_cons_succ, List.setIfInBounds_toArray, List.set_cons_zero, List.set_cons_succ]))
        (refine wpAnyH_take (i := 5) (v := ?_) rfl (by kernel_rfl) (by kernel_rfl) (by kernel_rfl) (fun _ _ _ h => h) (Or.inl ⟨by rfl, ?_⟩) (by assumption) ?_; (case' refine_2 => (intro w hSw; go_simp; try with_reducible rfl)); (try simp only [Act.put, List.getElem_toArray, List.getElem_cons_zero, List.getElem_cons_succ, List.setIfInBounds_toArray, List.set_cons_zero, List.set_cons_succ]))
        (refine wpAnyH_take (i := 6) (v := ?_) rfl (by kernel_rfl) (by kernel_rfl) (by kernel_rfl) (fun _ _ _ h => h) (Or.inl ⟨by rfl, ?_⟩) (by assumption) ?_; (case' refine_2 => (intro w hSw; go_simp; try with_reducible rfl)); (try simp only [Act.put, List.getElem_toArray, List.getElem_cons_zero, List.getElem_cons_succ, List.setIfInBounds_toArray, List.set_cons_zero, List.set_cons_succ]))
        (refine wpAnyH_take (i := 7) rfl (by kernel_rfl) (by kernel_rfl) (by kernel_rfl) (fun _ _ _ h => h) (yieldsIf_load_at (by rfl) _ _ rfl (ad1.add (k * 68)) rfl Y _ (fun _ h => h.2) (by assumption) rfl HIYL.out) (by assumption) ?_; (try simp only [Act.put, List.getElem_toArray, List.getElem_cons_zero, List.getElem_cons_succ, List.setIfInBounds_toArray, List.set_cons_zero, List.set_cons_succ]))
        refine wpAnyH_ready (rs := [8, 9]) (by kernel_rfl) (by simp) (AllReadyH.cons rfl (fun K hK => ?_) (AllReadyH.cons rfl (fun K hK => ?_) AllReadyH.nil))
        · rw [if_pos (by rfl)]
          refine wp_alloc_e rfl ?_
          have HBa := Aside0.mk (below_alloc (below_drew1 (Below.refl W.heap.size W)) (.cells zE.toArray 27))
          (refine Shut.out hK _ _ (HALL.out _ HBa.out) (fun hHeld => ?_); clear hK K; (try simp only [Act.put, List.getElem_toArray, List.getElem_cons_zero, List.getElem_cons_succ, List.setIfInBounds_toArray, List.set_cons_zero, List.set_cons_succ]))
          refine wpAnyH_ready (rs := [9]) (by kernel_rfl) (by simp) (AllReadyH.cons rfl (fun K hK => ?_) AllReadyH.nil)
          rw [if_pos (by rfl)]
          refine wp_alloc_e rfl ?_
          have HBb := Aside0.mk (below_alloc HBa.out (.cells zE.toArray 27))
          have HYa := Aside0.mk (show (((W.drew.alloc (.cells zE.toArray 27)).alloc (.cells zE.toArray 27))).heap[W.drew.heap.size]? = some (.cells zE.toArray 27 (0, 0)) from blk_alloc (blk_new _ _) _)
          have HYb := Aside0.mk (show (((W.drew.alloc (.cells zE.toArray 27)).alloc (.cells zE.toArray 27))).heap[(W.drew.alloc (.cells zE.toArray 27)).heap.size]? = some (.cells zE.toArray 27 (0, 0)) from blk_new _ _)
          have HNab := Aside0.mk (show W.drew.heap.size ≠ (W.drew.alloc (.cells zE.toArray 27)).heap.size from by simp [World.alloc])
          have HGa := Aside0.mk (show W.heap.size ≤ W.drew.heap.size from Nat.le_refl _)
          have HGb := Aside0.mk (show W.heap.size ≤ (W.drew.alloc (.cells zE.toArray 27)).heap.size from by simp [World.alloc])
          obtain ⟨w2, hw2⟩ : ∃ V, ((W.drew.alloc (.cells zE.toArray 27)).alloc (.cells zE.toArray 27)) = V := ⟨_, rfl⟩
          obtain ⟨g6, hg6⟩ : ∃ g, W.drew.heap.size = g := ⟨_, rfl⟩
          obtain ⟨g7, hg7⟩ : ∃ g, (W.drew.alloc (.cells zE.toArray 27)).heap.size = g := ⟨_, rfl⟩
          rw [hw2] at HBb HYa HYb ⊢
          rw [hg6] at HYa HNab HGa ⊢
          rw [hg7] at HYb HNab HGb ⊢
          have HN67 := Aside0.mk (show g7 ≠ g6 from HNab.out.symm)
          clear hw2 hg6 hg7 HNab
          (refine Shut.out hK _ _ (HALL.out _ HBb.out) (fun hHeld => ?_); clear hK K; (try simp only [Act.put, List.getElem_toArray, List.getElem_cons_zero, List.getElem_cons_succ, List.setIfInBounds_toArray, List.set_cons_zero, List.set_cons_succ]))
          refine wpAnyH_ready (rs := [10]) (by kernel_rfl) (by simp) (AllReadyH.cons rfl (fun K hK => ?_) AllReadyH.nil)
          rw [if_pos (by rfl)]
          refine wp_store_row 27 (.tmp 6) (.tmp 22) rfl g6 X.toArray rfl rfl 27 zE.toArray HYa.out HIX.out (by rw [List.size_toArray, List.size_toArray, zE_len, HXL.out]) HOX.out ?_
          have HBc := Aside0.mk (below_setRow HBb.out HGa.out X.toArray)
          have HYc := Aside0.mk ((setRow_other w2 g6 g7 X.toArray HN67.out).trans HYb.out)
          have HXc := Aside0.mk (setRow_heap w2 g6 zE.toArray X.toArray _ _ HYa.out)
          obtain ⟨w3, hw3⟩ : ∃ V, w2.setRow g6 X.toArray = V := ⟨_, rfl⟩
          rw [hw3] at HBc HYc HXc ⊢
          clear hw3
          (refine Shut.out hK _ _ (HALL.out _ HBc.out) (fun hHeld => ?_); clear hK K; (try simp only [Act.put, List.getElem_toArray, List.getElem_cons_zero, List.getElem_cons_succ, List.setIfInBounds_toArray, List.set_cons_zero, List.set_cons_succ]))
          refine wpAnyH_ready (rs := [11]) (by kernel_rfl) (by simp) (AllReadyH.cons rfl (fun K hK => ?_) AllReadyH.nil)
          rw [if_pos (by rfl)]
          refine wp_store_row 27 (.tmp 7) (.tmp 26) rfl g7 Y.toArray rfl rfl 27 zE.toArray HYc.out HIY.out (by rw [List.size_toArray, List.size_toArray, zE_len, HYL.out]) HOY.out ?_
          have HBd := Aside0.mk (below_setRow HBc.out HGb.out Y.toArray)
          have HXd := Aside0.mk ((setRow_other w3 g7 g6 Y.toArray HN67.out.symm).trans HXc.out)
          have HYd := Aside0.mk (setRow_heap w3 g7 zE.toArray Y.toArray _ _ HYc.out)
          obtain ⟨w4, hw4⟩ : ∃ V, w3.setRow g7 Y.toArray = V := ⟨_, rfl⟩
          rw [hw4] at HBd HYd HXd ⊢
          clear hw4
          (refine Shut.out hK _ _ (HALL.out _ HBd.out) (fun hHeld => ?_); clear hK K; (try simp only [Act.put, List.getElem_toArray, List.getElem_cons_zero, List.getElem_cons_succ, List.setIfInBounds_toArray, List.set_cons_zero, List.set_cons_succ]))
          refine wpAnyH_done (by kernel_rfl) ?_ _
          have HE := Aside0.mk (HMK.out w4 g6 g7 HXd.out HYd.out)
          have HB4 := Aside0.mk (below_step HB.out HBd.out)
          have hs1 := HE.out.1.s
          have hs2 := HE.out.1.sl
          have hs3 := HE.out.1.py
          have hs4 := HE.out.1.r
          have ht1 := HE.out.2.s
          have ht2 := HE.out.2.sl
          have ht3 := HE.out.2.py
          have ht4 := HE.out.2.r
          obtain ⟨s1, es1⟩ : ∃ v, seqE x = v := ⟨_, rfl⟩
          obtain ⟨t1, et1⟩ : ∃ v, seqE y = v := ⟨_, rfl⟩
          obtain ⟨s2, es2⟩ : ∃ v, saltE x = v := ⟨_, rfl⟩
          obtain ⟨t2, et2⟩ : ∃ v, saltE y = v := ⟨_, rfl⟩
          obtain ⟨s4, es4⟩ : ∃ v, redE x = v := ⟨_, rfl⟩
          obtain ⟨t4, et4⟩ : ∃ v, redE y = v := ⟨_, rfl⟩
          rw [es1] at hs1
          rw [et1] at ht1
          rw [es2] at hs2
          rw [et2] at ht2
          rw [es4] at hs4
          rw [et4] at ht4
          have ES1 := Aside0.mk es1
          have ET1 := Aside0.mk et1
          have ES2 := Aside0.mk es2
          have ET2 := Aside0.mk et2
          have ES4 := Aside0.mk es4
          have ET4 := Aside0.mk et4
          clear es1 et1 es2 et2 es4 et4
          by_cases c1 : s1 = t1
          · have C1 := Aside0.mk c1
            have r1 : (s1 != t1) = false := by simp [c1]
            clear c1
            have hp := HP.out
            have hq := HC.out
            cases bp with
            | false =>
              clear hq
              go_wp2_with (first
                | ((with_reducible refine gate_dst (N := 34) rfl ?_); (try (refine gate_guard (by rfl) ?_; dsimp only)); refine wpList_load_at rfl 23 (.tmp 33) rfl _ rfl P _ HE.out.1.fp Try.underlying23 rfl HI.out.1 ?_)
                | ((with_reducible refine gate_dst (N := 36) rfl ?_); (try (refine gate_guard (by rfl) ?_; dsimp only)); refine wpList_load_at rfl 23 (.tmp 35) rfl _ rfl P' _ HE.out.2.fp Try.underlying23 rfl HI.out.2.2.1 ?_)
                | ((with_reducible refine gate_dst (N := 41) rfl ?_); (try (refine gate_guard (by rfl) ?_; dsimp only)); refine wpList_load_at rfl 23 (.tmp 40) rfl _ rfl C _ HE.out.1.fc Try.underlying23 rfl HI.out.2.1 ?_)
                | ((with_reducible refine gate_dst (N := 43) rfl ?_); (try (refine gate_guard (by rfl) ?_; dsimp only)); refine wpList_load_at rfl 23 (.tmp 42) rfl _ rfl C' _ HE.out.2.fc Try.underlying23 rfl HI.out.2.2.2 ?_)
                | (go_at_call 23; refine (HSM.out _ HB4.out).mono ?_; rintro e w9 ⟨rfl, hd⟩; have HB9 := Aside0.mk (below_step HB4.out (Drawn0.below hd)); clear hd))
              go_ret
              exact ⟨congrArg (fun b => Ending.returned (Value.bool b)) (decide_eq_false (HNE.out (fun e => of_decide_eq_false HBP.out (congrArg prevE e)))).symm, HB4.out⟩
            | true =>
              cases bc with
              | false =>
                go_wp2_with (first
                  | ((with_reducible refine gate_dst (N := 34) rfl ?_); (try (refine gate_guard (by rfl) ?_; dsimp only)); refine wpList_load_at rfl 23 (.tmp 33) rfl _ rfl P _ HE.out.1.fp Try.underlying23 rfl HI.out.1 ?_)
                  | ((with_reducible refine gate_dst (N := 36) rfl ?_); (try (refine gate_guard (by rfl) ?_; dsimp only)); refine wpList_load_at rfl 23 (.tmp 35) rfl _ rfl P' _ HE.out.2.fp Try.underlying23 rfl HI.out.2.2.1 ?_)
                  | ((with_reducible refine gate_dst (N := 41) rfl ?_); (try (refine gate_guard (by rfl) ?_; dsimp only)); refine wpList_load_at rfl 23 (.tmp 40) rfl _ rfl C _ HE.out.1.fc Try.underlying23 rfl HI.out.2.1 ?_)
                  | ((with_reducible refine gate_dst (N := 43) rfl ?_); (try (refine gate_guard (by rfl) ?_; dsimp only)); refine wpList_load_at rfl 23 (.tmp 42) rfl _ rfl C' _ HE.out.2.fc Try.underlying23 rfl HI.out.2.2.2 ?_)
                  | (go_at_call 23; refine (HSM.out _ HB4.out).mono ?_; rintro e w9 ⟨rfl, hd⟩; have HB9 := Aside0.mk (below_step HB4.out (Drawn0.below hd)); clear hd))
                go_ret
                exact ⟨congrArg (fun b => Ending.returned (Value.bool b)) (decide_eq_false (HNE.out (fun e => of_decide_eq_false HBC.out (congrArg comE e)))).symm, HB4.out⟩
              | true =>
                by_cases c2 : s2 = t2
                · have C2 := Aside0.mk c2
                  have r2 : (s2 != t2) = false := by simp [c2]
                  clear c2
                  by_cases c4 : s4 = t4
                  · have C4 := Aside0.mk c4
                    subst c4
                    cases s4
                    · cases by_ with
                      | false =>
                        go_wp2_with (first
                          | ((with_reducible refine gate_dst (N := 34) rfl ?_); (try (refine gate_guard (by rfl) ?_; dsimp only)); refine wpList_load_at rfl 23 (.tmp 33) rfl _ rfl P _ HE.out.1.fp Try.underlying23 rfl HI.out.1 ?_)
                          | ((with_reducible refine gate_dst (N := 36) rfl ?_); (try (refine gate_guard (by rfl) ?_; dsimp only)); refine wpList_load_at rfl 23 (.tmp 35) rfl _ rfl P' _ HE.out.2.fp Try.underlying23 rfl HI.out.2.2.1 ?_)
                          | ((with_reducible refine gate_dst (N := 41) rfl ?_); (try (refine gate_guard (by rfl) ?_; dsimp only)); refine wpList_load_at rfl 23 (.tmp 40) rfl _ rfl C _ HE.out.1.fc Try.underlying23 rfl HI.out.2.1 ?_)
                          | ((with_reducible refine gate_dst (N := 43) rfl ?_); (try (refine gate_guard (by rfl) ?_; dsimp only)); refine wpList_load_at rfl 23 (.tmp 42) rfl _ rfl C' _ HE.out.2.fc Try.underlying23 rfl HI.out.2.2.2 ?_)
                          | (go_at_call 23; refine (HSM.out _ HB4.out).mono ?_; rintro e w9 ⟨rfl, hd⟩; have HB9 := Aside0.mk (below_step HB4.out (Drawn0.below hd)); clear hd))
                        go_ret
                        exact ⟨congrArg (fun b => Ending.returned (Value.bool b)) (decide_eq_false (HNE.out (fun e => of_decide_eq_false HBY.out (congrArg payE e)))).symm, HB9.out⟩
                      | true =>
                        have HEQ := Aside0.mk (show a.take (k + 1) = b.take (k + 1) from by
                          rw [HX.out, HY.out, HTK.out, ent_ext (x := x) (y := y) (by rw [ES1.out, ET1.out]; exact C1.out) (of_decide_eq_true HBP.out) (of_decide_eq_true HBC.out) (by rw [ES2.out, ET2.out]; exact C2.out) (by rw [ES4.out, ET4.out]) (of_decide_eq_true HBY.out)])
                        go_wp2_with (first
                          | ((with_reducible refine gate_dst (N := 34) rfl ?_); (try (refine gate_guard (by rfl) ?_; dsimp only)); refine wpList_load_at rfl 23 (.tmp 33) rfl _ rfl P _ HE.out.1.fp Try.underlying23 rfl HI.out.1 ?_)
                          | ((with_reducible refine gate_dst (N := 36) rfl ?_); (try (refine gate_guard (by rfl) ?_; dsimp only)); refine wpList_load_at rfl 23 (.tmp 35) rfl _ rfl P' _ HE.out.2.fp Try.underlying23 rfl HI.out.2.2.1 ?_)
                          | ((with_reducible refine gate_dst (N := 41) rfl ?_); (try (refine gate_guard (by rfl) ?_; dsimp only)); refine wpList_load_at rfl 23 (.tmp 40) rfl _ rfl C _ HE.out.1.fc Try.underlying23 rfl HI.out.2.1 ?_)
                          | ((with_reducible refine gate_dst (N := 43) rfl ?_); (try (refine gate_guard (by rfl) ?_; dsimp only)); refine wpList_load_at rfl 23 (.tmp 42) rfl _ rfl C' _ HE.out.2.fc Try.underlying23 rfl HI.out.2.2.2 ?_)
                          | (go_at_call 23; refine (HSM.out _ HB4.out).mono ?_; rintro e w9 ⟨rfl, hd⟩; have HB9 := Aside0.mk (below_step HB4.out (Drawn0.below hd)); clear hd))
                        go_roundw
                        case rel => exact ⟨k + 1, by have := HK.out; omega, by go_num, HEQ, HB9.out⟩
                        case measure => have := HK.out; simp [intOf]; omega
                    · cases by_ with
                      | false =>
                        go_wp2_with (first
                          | ((with_reducible refine gate_dst (N := 34) rfl ?_); (try (refine gate_guard (by rfl) ?_; dsimp only)); refine wpList_load_at rfl 23 (.tmp 33) rfl _ rfl P _ HE.out.1.fp Try.underlying23 rfl HI.out.1 ?_)
                          | ((with_reducible refine gate_dst (N := 36) rfl ?_); (try (refine gate_guard (by rfl) ?_; dsimp only)); refine wpList_load_at rfl 23 (.tmp 35) rfl _ rfl P' _ HE.out.2.fp Try.underlying23 rfl HI.out.2.2.1 ?_)
                          | ((with_reducible refine gate_dst (N := 41) rfl ?_); (try (refine gate_guard (by rfl) ?_; dsimp only)); refine wpList_load_at rfl 23 (.tmp 40) rfl _ rfl C _ HE.out.1.fc Try.underlying23 rfl HI.out.2.1 ?_)
                          | ((with_reducible refine gate_dst (N := 43) rfl ?_); (try (refine gate_guard (by rfl) ?_; dsimp only)); refine wpList_load_at rfl 23 (.tmp 42) rfl _ rfl C' _ HE.out.2.fc Try.underlying23 rfl HI.out.2.2.2 ?_)
                          | (go_at_call 23; refine (HSM.out _ HB4.out).mono ?_; rintro e w9 ⟨rfl, hd⟩; have HB9 := Aside0.mk (below_step HB4.out (Drawn0.below hd)); clear hd))
                        go_ret
                        exact ⟨congrArg (fun b => Ending.returned (Value.bool b)) (decide_eq_false (HNE.out (fun e => of_decide_eq_false HBY.out (congrArg payE e)))).symm, HB9.out⟩
                      | true =>
                        have HEQ := Aside0.mk (show a.take (k + 1) = b.take (k + 1) from by
                          rw [HX.out, HY.out, HTK.out, ent_ext (x := x) (y := y) (by rw [ES1.out, ET1.out]; exact C1.out) (of_decide_eq_true HBP.out) (of_decide_eq_true HBC.out) (by rw [ES2.out, ET2.out]; exact C2.out) (by rw [ES4.out, ET4.out]) (of_decide_eq_true HBY.out)])
                        go_wp2_with (first
                          | ((with_reducible refine gate_dst (N := 34) rfl ?_); (try (refine gate_guard (by rfl) ?_; dsimp only)); refine wpList_load_at rfl 23 (.tmp 33) rfl _ rfl P _ HE.out.1.fp Try.underlying23 rfl HI.out.1 ?_)
                          | ((with_reducible refine gate_dst (N := 36) rfl ?_); (try (refine gate_guard (by rfl) ?_; dsimp only)); refine wpList_load_at rfl 23 (.tmp 35) rfl _ rfl P' _ HE.out.2.fp Try.underlying23 rfl HI.out.2.2.1 ?_)
                          | ((with_reducible refine gate_dst (N := 41) rfl ?_); (try (refine gate_guard (by rfl) ?_; dsimp only)); refine wpList_load_at rfl 23 (.tmp 40) rfl _ rfl C _ HE.out.1.fc Try.underlying23 rfl HI.out.2.1 ?_)
                          | ((with_reducible refine gate_dst (N := 43) rfl ?_); (try (refine gate_guard (by rfl) ?_; dsimp only)); refine wpList_load_at rfl 23 (.tmp 42) rfl _ rfl C' _ HE.out.2.fc Try.underlying23 rfl HI.out.2.2.2 ?_)
                          | (go_at_call 23; refine (HSM.out _ HB4.out).mono ?_; rintro e w9 ⟨rfl, hd⟩; have HB9 := Aside0.mk (below_step HB4.out (Drawn0.below hd)); clear hd))
                        go_roundw
                        case rel => exact ⟨k + 1, by have := HK.out; omega, by go_num, HEQ, HB9.out⟩
                        case measure => have := HK.out; simp [intOf]; omega
                  · have C4 := Aside0.mk c4
                    obtain ⟨rfl, rfl⟩ | ⟨rfl, rfl⟩ : (s4 = true ∧ t4 = false) ∨ (s4 = false ∧ t4 = true) := by cases s4 <;> cases t4 <;> simp_all
                    · clear c4
                      go_wp2_with (first
                        | ((with_reducible refine gate_dst (N := 34) rfl ?_); (try (refine gate_guard (by rfl) ?_; dsimp only)); refine wpList_load_at rfl 23 (.tmp 33) rfl _ rfl P _ HE.out.1.fp Try.underlying23 rfl HI.out.1 ?_)
                        | ((with_reducible refine gate_dst (N := 36) rfl ?_); (try (refine gate_guard (by rfl) ?_; dsimp only)); refine wpList_load_at rfl 23 (.tmp 35) rfl _ rfl P' _ HE.out.2.fp Try.underlying23 rfl HI.out.2.2.1 ?_)
                        | ((with_reducible refine gate_dst (N := 41) rfl ?_); (try (refine gate_guard (by rfl) ?_; dsimp only)); refine wpList_load_at rfl 23 (.tmp 40) rfl _ rfl C _ HE.out.1.fc Try.underlying23 rfl HI.out.2.1 ?_)
                        | ((with_reducible refine gate_dst (N := 43) rfl ?_); (try (refine gate_guard (by rfl) ?_; dsimp only)); refine wpList_load_at rfl 23 (.tmp 42) rfl _ rfl C' _ HE.out.2.fc Try.underlying23 rfl HI.out.2.2.2 ?_)
                        | (go_at_call 23; refine (HSM.out _ HB4.out).mono ?_; rintro e w9 ⟨rfl, hd⟩; have HB9 := Aside0.mk (below_step HB4.out (Drawn0.below hd)); clear hd))
                      go_ret
                      exact ⟨congrArg (fun b => Ending.returned (Value.bool b)) (decide_eq_false (HNE.out (fun e => C4.out (by rw [← ES4.out, ← ET4.out, e])))).symm, HB4.out⟩
                    · clear c4
                      go_wp2_with (first
                        | ((with_reducible refine gate_dst (N := 34) rfl ?_); (try (refine gate_guard (by rfl) ?_; dsimp only)); refine wpList_load_at rfl 23 (.tmp 33) rfl _ rfl P _ HE.out.1.fp Try.underlying23 rfl HI.out.1 ?_)
                        | ((with_reducible refine gate_dst (N := 36) rfl ?_); (try (refine gate_guard (by rfl) ?_; dsimp only)); refine wpList_load_at rfl 23 (.tmp 35) rfl _ rfl P' _ HE.out.2.fp Try.underlying23 rfl HI.out.2.2.1 ?_)
                        | ((with_reducible refine gate_dst (N := 41) rfl ?_); (try (refine gate_guard (by rfl) ?_; dsimp only)); refine wpList_load_at rfl 23 (.tmp 40) rfl _ rfl C _ HE.out.1.fc Try.underlying23 rfl HI.out.2.1 ?_)
                        | ((with_reducible refine gate_dst (N := 43) rfl ?_); (try (refine gate_guard (by rfl) ?_; dsimp only)); refine wpList_load_at rfl 23 (.tmp 42) rfl _ rfl C' _ HE.out.2.fc Try.underlying23 rfl HI.out.2.2.2 ?_)
                        | (go_at_call 23; refine (HSM.out _ HB4.out).mono ?_; rintro e w9 ⟨rfl, hd⟩; have HB9 := Aside0.mk (below_step HB4.out (Drawn0.below hd)); clear hd))
                      go_ret
                      exact ⟨congrArg (fun b => Ending.returned (Value.bool b)) (decide_eq_false (HNE.out (fun e => C4.out (by rw [← ES4.out, ← ET4.out, e])))).symm, HB4.out⟩
                · have C2 := Aside0.mk c2
                  have r2 : (s2 != t2) = true := by simp [c2]
                  clear c2
                  go_wp2_with (first
                    | ((with_reducible refine gate_dst (N := 34) rfl ?_); (try (refine gate_guard (by rfl) ?_; dsimp only)); refine wpList_load_at rfl 23 (.tmp 33) rfl _ rfl P _ HE.out.1.fp Try.underlying23 rfl HI.out.1 ?_)
                    | ((with_reducible refine gate_dst (N := 36) rfl ?_); (try (refine gate_guard (by rfl) ?_; dsimp only)); refine wpList_load_at rfl 23 (.tmp 35) rfl _ rfl P' _ HE.out.2.fp Try.underlying23 rfl HI.out.2.2.1 ?_)
                    | ((with_reducible refine gate_dst (N := 41) rfl ?_); (try (refine gate_guard (by rfl) ?_; dsimp only)); refine wpList_load_at rfl 23 (.tmp 40) rfl _ rfl C _ HE.out.1.fc Try.underlying23 rfl HI.out.2.1 ?_)
                    | ((with_reducible refine gate_dst (N := 43) rfl ?_); (try (refine gate_guard (by rfl) ?_; dsimp only)); refine wpList_load_at rfl 23 (.tmp 42) rfl _ rfl C' _ HE.out.2.fc Try.underlying23 rfl HI.out.2.2.2 ?_)
                    | (go_at_call 23; refine (HSM.out _ HB4.out).mono ?_; rintro e w9 ⟨rfl, hd⟩; have HB9 := Aside0.mk (below_step HB4.out (Drawn0.below hd)); clear hd))
                  go_ret
                  exact ⟨congrArg (fun b => Ending.returned (Value.bool b)) (decide_eq_false (HNE.out (fun e => C2.out (by rw [← ES2.out, ← ET2.out, e])))).symm, HB4.out⟩
          · have C1 := Aside0.mk c1
            have r1 : (s1 != t1) = true := by simp [c1]
            clear c1
            go_wp2_with (first
              | ((with_reducible refine gate_dst (N := 34) rfl ?_); (try (refine gate_guard (by rfl) ?_; dsimp only)); refine wpList_load_at rfl 23 (.tmp 33) rfl _ rfl P _ HE.out.1.fp Try.underlying23 rfl HI.out.1 ?_)
              | ((with_reducible refine gate_dst (N := 36) rfl ?_); (try (refine gate_guard (by rfl) ?_; dsimp only)); refine wpList_load_at rfl 23 (.tmp 35) rfl _ rfl P' _ HE.out.2.fp Try.underlying23 rfl HI.out.2.2.1 ?_)
              | ((with_reducible refine gate_dst (N := 41) rfl ?_); (try (refine gate_guard (by rfl) ?_; dsimp only)); refine wpList_load_at rfl 23 (.tmp 40) rfl _ rfl C _ HE.out.1.fc Try.underlying23 rfl HI.out.2.1 ?_)
              | ((with_reducible refine gate_dst (N := 43) rfl ?_); (try (refine gate_guard (by rfl) ?_; dsimp only)); refine wpList_load_at rfl 23 (.tmp 42) rfl _ rfl C' _ HE.out.2.fc Try.underlying23 rfl HI.out.2.2.2 ?_)
              | (go_at_call 23; refine (HSM.out _ HB4.out).mono ?_; rintro e w9 ⟨rfl, hd⟩; have HB9 := Aside0.mk (below_step HB4.out (Drawn0.below hd)); clear hd))
            go_ret
            exact ⟨congrArg (fun b => Ending.returned (Value.bool b)) (decide_eq_false (HNE.out (fun e => C1.out (by rw [← ES1.out, ← ET1.out, e])))).symm, HB4.out⟩
        · rw [if_pos (by rfl)]
          refine wp_alloc_e rfl ?_
          have HBa := Aside0.mk (below_alloc (below_drew1 (Below.refl W.heap.size W)) (.cells zE.toArray 27))
          (refine Shut.out hK _ _ (HALL.out _ HBa.out) (fun hHeld => ?_); clear hK K; (try simp only [Act.put, List.getElem_toArray, List.getElem_cons_zero, List.getElem_cons_succ, List.setIfInBounds_toArray, List.set_cons_zero, List.set_cons_succ]))
          refine wpAnyH_ready (rs := [8]) (by kernel_rfl) (by simp) (AllReadyH.cons rfl (fun K hK => ?_) AllReadyH.nil)
          rw [if_pos (by rfl)]
          refine wp_alloc_e rfl ?_
          have HBb := Aside0.mk (below_alloc HBa.out (.cells zE.toArray 27))
          have HYa := Aside0.mk (show (((W.drew.alloc (.cells zE.toArray 27)).alloc (.cells zE.toArray 27))).heap[W.drew.heap.size]? = some (.cells zE.toArray 27 (0, 0)) from blk_alloc (blk_new _ _) _)
          have HYb := Aside0.mk (show (((W.drew.alloc (.cells zE.toArray 27)).alloc (.cells zE.toArray 27))).heap[(W.drew.alloc (.cells zE.toArray 27)).heap.size]? = some (.cells zE.toArray 27 (0, 0)) from blk_new _ _)
          have HNab := Aside0.mk (show W.drew.heap.size ≠ (W.drew.alloc (.cells zE.toArray 27)).heap.size from by simp [World.alloc])
          have HGa := Aside0.mk (show W.heap.size ≤ W.drew.heap.size from Nat.le_refl _)
          have HGb := Aside0.mk (show W.heap.size ≤ (W.drew.alloc (.cells zE.toArray 27)).heap.size from by simp [World.alloc])
          obtain ⟨w2, hw2⟩ : ∃ V, ((W.drew.alloc (.cells zE.toArray 27)).alloc (.cells zE.toArray 27)) = V := ⟨_, rfl⟩
          obtain ⟨g6, hg6⟩ : ∃ g, (W.drew.alloc (.cells zE.toArray 27)).heap.size = g := ⟨_, rfl⟩
          obtain ⟨g7, hg7⟩ : ∃ g, W.drew.heap.size = g := ⟨_, rfl⟩
          rw [hw2] at HBb HYa HYb ⊢
          rw [hg7] at HYa HNab HGa ⊢
          rw [hg6] at HYb HNab HGb ⊢
          have HN67 := Aside0.mk (show g7 ≠ g6 from HNab.out)
          clear hw2 hg6 hg7 HNab
          (refine Shut.out hK _ _ (HALL.out _ HBb.out) (fun hHeld => ?_); clear hK K; (try simp only [Act.put, List.getElem_toArray, List.getElem_cons_zero, List.getElem_cons_succ, List.setIfInBounds_toArray, List.set_cons_zero, List.set_cons_succ]))
          refine wpAnyH_ready (rs := [10]) (by kernel_rfl) (by simp) (AllReadyH.cons rfl (fun K hK => ?_) AllReadyH.nil)
          rw [if_pos (by rfl)]
          refine wp_store_row 27 (.tmp 6) (.tmp 22) rfl g6 X.toArray rfl rfl 27 zE.toArray HYb.out HIX.out (by rw [List.size_toArray, List.size_toArray, zE_len, HXL.out]) HOX.out ?_
          have HBc := Aside0.mk (below_setRow HBb.out HGb.out X.toArray)
          have HYc := Aside0.mk ((setRow_other w2 g6 g7 X.toArray HN67.out).trans HYa.out)
          have HXc := Aside0.mk (setRow_heap w2 g6 zE.toArray X.toArray _ _ HYb.out)
          obtain ⟨w3, hw3⟩ : ∃ V, w2.setRow g6 X.toArray = V := ⟨_, rfl⟩
          rw [hw3] at HBc HYc HXc ⊢
          clear hw3
          (refine Shut.out hK _ _ (HALL.out _ HBc.out) (fun hHeld => ?_); clear hK K; (try simp only [Act.put, List.getElem_toArray, List.getElem_cons_zero, List.getElem_cons_succ, List.setIfInBounds_toArray, List.set_cons_zero, List.set_cons_succ]))
          refine wpAnyH_ready (rs := [11]) (by kernel_rfl) (by simp) (AllReadyH.cons rfl (fun K hK => ?_) AllReadyH.nil)
          rw [if_pos (by rfl)]
          refine wp_store_row 27 (.tmp 7) (.tmp 26) rfl g7 Y.toArray rfl rfl 27 zE.toArray HYc.out HIY.out (by rw [List.size_toArray, List.size_toArray, zE_len, HYL.out]) HOY.out ?_
          have HBd := Aside0.mk (below_setRow HBc.out HGa.out Y.toArray)
          have HXd := Aside0.mk ((setRow_other w3 g7 g6 Y.toArray HN67.out.symm).trans HXc.out)
          have HYd := Aside0.mk (setRow_heap w3 g7 zE.toArray Y.toArray _ _ HYc.out)
          obtain ⟨w4, hw4⟩ : ∃ V, w3.setRow g7 Y.toArray = V := ⟨_, rfl⟩
          rw [hw4] at HBd HYd HXd ⊢
          clear hw4
          (refine Shut.out hK _ _ (HALL.out _ HBd.out) (fun hHeld => ?_); clear hK K; (try simp only [Act.put, List.getElem_toArray, List.getElem_cons_zero, List.getElem_cons_succ, List.setIfInBounds_toArray, List.set_cons_zero, List.set_cons_succ]))
          refine wpAnyH_done (by kernel_rfl) ?_ _
          have HE := Aside0.mk (HMK.out w4 g6 g7 HXd.out HYd.out)
          have HB4 := Aside0.mk (below_step HB.out HBd.out)
          have hs1 := HE.out.1.s
          have hs2 := HE.out.1.sl
          have hs3 := HE.out.1.py
          have hs4 := HE.out.1.r
          have ht1 := HE.out.2.s
          have ht2 := HE.out.2.sl
          have ht3 := HE.out.2.py
          have ht4 := HE.out.2.r
          obtain ⟨s1, es1⟩ : ∃ v, seqE x = v := ⟨_, rfl⟩
          obtain ⟨t1, et1⟩ : ∃ v, seqE y = v := ⟨_, rfl⟩
          obtain ⟨s2, es2⟩ : ∃ v, saltE x = v := ⟨_, rfl⟩
          obtain ⟨t2, et2⟩ : ∃ v, saltE y = v := ⟨_, rfl⟩
          obtain ⟨s4, es4⟩ : ∃ v, redE x = v := ⟨_, rfl⟩
          obtain ⟨t4, et4⟩ : ∃ v, redE y = v := ⟨_, rfl⟩
          rw [es1] at hs1
          rw [et1] at ht1
          rw [es2] at hs2
          rw [et2] at ht2
          rw [es4] at hs4
          rw [et4] at ht4
          have ES1 := Aside0.mk es1
          have ET1 := Aside0.mk et1
          have ES2 := Aside0.mk es2
          have ET2 := Aside0.mk et2
          have ES4 := Aside0.mk es4
          have ET4 := Aside0.mk et4
          clear es1 et1 es2 et2 es4 et4
          by_cases c1 : s1 = t1
          · have C1 := Aside0.mk c1
            have r1 : (s1 != t1) = false := by simp [c1]
            clear c1
            have hp := HP.out
            have hq := HC.out
            cases bp with
            | false =>
              clear hq
              go_wp2_with (first
                | ((with_reducible refine gate_dst (N := 34) rfl ?_); (try (refine gate_guard (by rfl) ?_; dsimp only)); refine wpList_load_at rfl 23 (.tmp 33) rfl _ rfl P _ HE.out.1.fp Try.underlying23 rfl HI.out.1 ?_)
                | ((with_reducible refine gate_dst (N := 36) rfl ?_); (try (refine gate_guard (by rfl) ?_; dsimp only)); refine wpList_load_at rfl 23 (.tmp 35) rfl _ rfl P' _ HE.out.2.fp Try.underlying23 rfl HI.out.2.2.1 ?_)
                | ((with_reducible refine gate_dst (N := 41) rfl ?_); (try (refine gate_guard (by rfl) ?_; dsimp only)); refine wpList_load_at rfl 23 (.tmp 40) rfl _ rfl C _ HE.out.1.fc Try.underlying23 rfl HI.out.2.1 ?_)
                | ((with_reducible refine gate_dst (N := 43) rfl ?_); (try (refine gate_guard (by rfl) ?_; dsimp only)); refine wpList_load_at rfl 23 (.tmp 42) rfl _ rfl C' _ HE.out.2.fc Try.underlying23 rfl HI.out.2.2.2 ?_)
                | (go_at_call 23; refine (HSM.out _ HB4.out).mono ?_; rintro e w9 ⟨rfl, hd⟩; have HB9 := Aside0.mk (below_step HB4.out (Drawn0.below hd)); clear hd))
              go_ret
              exact ⟨congrArg (fun b => Ending.returned (Value.bool b)) (decide_eq_false (HNE.out (fun e => of_decide_eq_false HBP.out (congrArg prevE e)))).symm, HB4.out⟩
            | true =>
              cases bc with
              | false =>
                go_wp2_with (first
                  | ((with_reducible refine gate_dst (N := 34) rfl ?_); (try (refine gate_guard (by rfl) ?_; dsimp only)); refine wpList_load_at rfl 23 (.tmp 33) rfl _ rfl P _ HE.out.1.fp Try.underlying23 rfl HI.out.1 ?_)
                  | ((with_reducible refine gate_dst (N := 36) rfl ?_); (try (refine gate_guard (by rfl) ?_; dsimp only)); refine wpList_load_at rfl 23 (.tmp 35) rfl _ rfl P' _ HE.out.2.fp Try.underlying23 rfl HI.out.2.2.1 ?_)
                  | ((with_reducible refine gate_dst (N := 41) rfl ?_); (try (refine gate_guard (by rfl) ?_; dsimp only)); refine wpList_load_at rfl 23 (.tmp 40) rfl _ rfl C _ HE.out.1.fc Try.underlying23 rfl HI.out.2.1 ?_)
                  | ((with_reducible refine gate_dst (N := 43) rfl ?_); (try (refine gate_guard (by rfl) ?_; dsimp only)); refine wpList_load_at rfl 23 (.tmp 42) rfl _ rfl C' _ HE.out.2.fc Try.underlying23 rfl HI.out.2.2.2 ?_)
                  | (go_at_call 23; refine (HSM.out _ HB4.out).mono ?_; rintro e w9 ⟨rfl, hd⟩; have HB9 := Aside0.mk (below_step HB4.out (Drawn0.below hd)); clear hd))
                go_ret
                exact ⟨congrArg (fun b => Ending.returned (Value.bool b)) (decide_eq_false (HNE.out (fun e => of_decide_eq_false HBC.out (congrArg comE e)))).symm, HB4.out⟩
              | true =>
                by_cases c2 : s2 = t2
                · have C2 := Aside0.mk c2
                  have r2 : (s2 != t2) = false := by simp [c2]
                  clear c2
                  by_cases c4 : s4 = t4
                  · have C4 := Aside0.mk c4
                    subst c4
                    cases s4
                    · cases by_ with
                      | false =>
                        go_wp2_with (first
                          | ((with_reducible refine gate_dst (N := 34) rfl ?_); (try (refine gate_guard (by rfl) ?_; dsimp only)); refine wpList_load_at rfl 23 (.tmp 33) rfl _ rfl P _ HE.out.1.fp Try.underlying23 rfl HI.out.1 ?_)
                          | ((with_reducible refine gate_dst (N := 36) rfl ?_); (try (refine gate_guard (by rfl) ?_; dsimp only)); refine wpList_load_at rfl 23 (.tmp 35) rfl _ rfl P' _ HE.out.2.fp Try.underlying23 rfl HI.out.2.2.1 ?_)
                          | ((with_reducible refine gate_dst (N := 41) rfl ?_); (try (refine gate_guard (by rfl) ?_; dsimp only)); refine wpList_load_at rfl 23 (.tmp 40) rfl _ rfl C _ HE.out.1.fc Try.underlying23 rfl HI.out.2.1 ?_)
                          | ((with_reducible refine gate_dst (N := 43) rfl ?_); (try (refine gate_guard (by rfl) ?_; dsimp only)); refine wpList_load_at rfl 23 (.tmp 42) rfl _ rfl C' _ HE.out.2.fc Try.underlying23 rfl HI.out.2.2.2 ?_)
                          | (go_at_call 23; refine (HSM.out _ HB4.out).mono ?_; rintro e w9 ⟨rfl, hd⟩; have HB9 := Aside0.mk (below_step HB4.out (Drawn0.below hd)); clear hd))
                        go_ret
                        exact ⟨congrArg (fun b => Ending.returned (Value.bool b)) (decide_eq_false (HNE.out (fun e => of_decide_eq_false HBY.out (congrArg payE e)))).symm, HB9.out⟩
                      | true =>
                        have HEQ := Aside0.mk (show a.take (k + 1) = b.take (k + 1) from by
                          rw [HX.out, HY.out, HTK.out, ent_ext (x := x) (y := y) (by rw [ES1.out, ET1.out]; exact C1.out) (of_decide_eq_true HBP.out) (of_decide_eq_true HBC.out) (by rw [ES2.out, ET2.out]; exact C2.out) (by rw [ES4.out, ET4.out]) (of_decide_eq_true HBY.out)])
                        go_wp2_with (first
                          | ((with_reducible refine gate_dst (N := 34) rfl ?_); (try (refine gate_guard (by rfl) ?_; dsimp only)); refine wpList_load_at rfl 23 (.tmp 33) rfl _ rfl P _ HE.out.1.fp Try.underlying23 rfl HI.out.1 ?_)
                          | ((with_reducible refine gate_dst (N := 36) rfl ?_); (try (refine gate_guard (by rfl) ?_; dsimp only)); refine wpList_load_at rfl 23 (.tmp 35) rfl _ rfl P' _ HE.out.2.fp Try.underlying23 rfl HI.out.2.2.1 ?_)
                          | ((with_reducible refine gate_dst (N := 41) rfl ?_); (try (refine gate_guard (by rfl) ?_; dsimp only)); refine wpList_load_at rfl 23 (.tmp 40) rfl _ rfl C _ HE.out.1.fc Try.underlying23 rfl HI.out.2.1 ?_)
                          | ((with_reducible refine gate_dst (N := 43) rfl ?_); (try (refine gate_guard (by rfl) ?_; dsimp only)); refine wpList_load_at rfl 23 (.tmp 42) rfl _ rfl C' _ HE.out.2.fc Try.underlying23 rfl HI.out.2.2.2 ?_)
                          | (go_at_call 23; refine (HSM.out _ HB4.out).mono ?_; rintro e w9 ⟨rfl, hd⟩; have HB9 := Aside0.mk (below_step HB4.out (Drawn0.below hd)); clear hd))
                        go_roundw
                        case rel => exact ⟨k + 1, by have := HK.out; omega, by go_num, HEQ, HB9.out⟩
                        case measure => have := HK.out; simp [intOf]; omega
                    · cases by_ with
                      | false =>
                        go_wp2_with (first
                          | ((with_reducible refine gate_dst (N := 34) rfl ?_); (try (refine gate_guard (by rfl) ?_; dsimp only)); refine wpList_load_at rfl 23 (.tmp 33) rfl _ rfl P _ HE.out.1.fp Try.underlying23 rfl HI.out.1 ?_)
                          | ((with_reducible refine gate_dst (N := 36) rfl ?_); (try (refine gate_guard (by rfl) ?_; dsimp only)); refine wpList_load_at rfl 23 (.tmp 35) rfl _ rfl P' _ HE.out.2.fp Try.underlying23 rfl HI.out.2.2.1 ?_)
                          | ((with_reducible refine gate_dst (N := 41) rfl ?_); (try (refine gate_guard (by rfl) ?_; dsimp only)); refine wpList_load_at rfl 23 (.tmp 40) rfl _ rfl C _ HE.out.1.fc Try.underlying23 rfl HI.out.2.1 ?_)
                          | ((with_reducible refine gate_dst (N := 43) rfl ?_); (try (refine gate_guard (by rfl) ?_; dsimp only)); refine wpList_load_at rfl 23 (.tmp 42) rfl _ rfl C' _ HE.out.2.fc Try.underlying23 rfl HI.out.2.2.2 ?_)
                          | (go_at_call 23; refine (HSM.out _ HB4.out).mono ?_; rintro e w9 ⟨rfl, hd⟩; have HB9 := Aside0.mk (below_step HB4.out (Drawn0.below hd)); clear hd))
                        go_ret
                        exact ⟨congrArg (fun b => Ending.returned (Value.bool b)) (decide_eq_false (HNE.out (fun e => of_decide_eq_false HBY.out (congrArg payE e)))).symm, HB9.out⟩
                      | true =>
                        have HEQ := Aside0.mk (show a.take (k + 1) = b.take (k + 1) from by
                          rw [HX.out, HY.out, HTK.out, ent_ext (x := x) (y := y) (by rw [ES1.out, ET1.out]; exact C1.out) (of_decide_eq_true HBP.out) (of_decide_eq_true HBC.out) (by rw [ES2.out, ET2.out]; exact C2.out) (by rw [ES4.out, ET4.out]) (of_decide_eq_true HBY.out)])
                        go_wp2_with (first
                          | ((with_reducible refine gate_dst (N := 34) rfl ?_); (try (refine gate_guard (by rfl) ?_; dsimp only)); refine wpList_load_at rfl 23 (.tmp 33) rfl _ rfl P _ HE.out.1.fp Try.underlying23 rfl HI.out.1 ?_)
                          | ((with_reducible refine gate_dst (N := 36) rfl ?_); (try (refine gate_guard (by rfl) ?_; dsimp only)); refine wpList_load_at rfl 23 (.tmp 35) rfl _ rfl P' _ HE.out.2.fp Try.underlying23 rfl HI.out.2.2.1 ?_)
                          | ((with_reducible refine gate_dst (N := 41) rfl ?_); (try (refine gate_guard (by rfl) ?_; dsimp only)); refine wpList_load_at rfl 23 (.tmp 40) rfl _ rfl C _ HE.out.1.fc Try.underlying23 rfl HI.out.2.1 ?_)
                          | ((with_reducible refine gate_dst (N := 43) rfl ?_); (try (refine gate_guard (by rfl) ?_; dsimp only)); refine wpList_load_at rfl 23 (.tmp 42) rfl _ rfl C' _ HE.out.2.fc Try.underlying23 rfl HI.out.2.2.2 ?_)
                          | (go_at_call 23; refine (HSM.out _ HB4.out).mono ?_; rintro e w9 ⟨rfl, hd⟩; have HB9 := Aside0.mk (below_step HB4.out (Drawn0.below hd)); clear hd))
                        go_roundw
                        case rel => exact ⟨k + 1, by have := HK.out; omega, by go_num, HEQ, HB9.out⟩
                        case measure => have := HK.out; simp [intOf]; omega
                  · have C4 := Aside0.mk c4
                    obtain ⟨rfl, rfl⟩ | ⟨rfl, rfl⟩ : (s4 = true ∧ t4 = false) ∨ (s4 = false ∧ t4 = true) := by cases s4 <;> cases t4 <;> simp_all
                    · clear c4
                      go_wp2_with (first
                        | ((with_reducible refine gate_dst (N := 34) rfl ?_); (try (refine gate_guard (by rfl) ?_; dsimp only)); refine wpList_load_at rfl 23 (.tmp 33) rfl _ rfl P _ HE.out.1.fp Try.underlying23 rfl HI.out.1 ?_)
                        | ((with_reducible refine gate_dst (N := 36) rfl ?_); (try (refine gate_guard (by rfl) ?_; dsimp only)); refine wpList_load_at rfl 23 (.tmp 35) rfl _ rfl P' _ HE.out.2.fp Try.underlying23 rfl HI.out.2.2.1 ?_)
                        | ((with_reducible refine gate_dst (N := 41) rfl ?_); (try (refine gate_guard (by rfl) ?_; dsimp only)); refine wpList_load_at rfl 23 (.tmp 40) rfl _ rfl C _ HE.out.1.fc Try.underlying23 rfl HI.out.2.1 ?_)
                        | ((with_reducible refine gate_dst (N := 43) rfl ?_); (try (refine gate_guard (by rfl) ?_; dsimp only)); refine wpList_load_at rfl 23 (.tmp 42) rfl _ rfl C' _ HE.out.2.fc Try.underlying23 rfl HI.out.2.2.2 ?_)
                        | (go_at_call 23; refine (HSM.out _ HB4.out).mono ?_; rintro e w9 ⟨rfl, hd⟩; have HB9 := Aside0.mk (below_step HB4.out (Drawn0.below hd)); clear hd))
                      go_ret
                      exact ⟨congrArg (fun b => Ending.returned (Value.bool b)) (decide_eq_false (HNE.out (fun e => C4.out (by rw [← ES4.out, ← ET4.out, e])))).symm, HB4.out⟩
                    · clear c4
                      go_wp2_with (first
                        | ((with_reducible refine gate_dst (N := 34) rfl ?_); (try (refine gate_guard (by rfl) ?_; dsimp only)); refine wpList_load_at rfl 23 (.tmp 33) rfl _ rfl P _ HE.out.1.fp Try.underlying23 rfl HI.out.1 ?_)
                        | ((with_reducible refine gate_dst (N := 36) rfl ?_); (try (refine gate_guard (by rfl) ?_; dsimp only)); refine wpList_load_at rfl 23 (.tmp 35) rfl _ rfl P' _ HE.out.2.fp Try.underlying23 rfl HI.out.2.2.1 ?_)
                        | ((with_reducible refine gate_dst (N := 41) rfl ?_); (try (refine gate_guard (by rfl) ?_; dsimp only)); refine wpList_load_at rfl 23 (.tmp 40) rfl _ rfl C _ HE.out.1.fc Try.underlying23 rfl HI.out.2.1 ?_)
                        | ((with_reducible refine gate_dst (N := 43) rfl ?_); (try (refine gate_guard (by rfl) ?_; dsimp only)); refine wpList_load_at rfl 23 (.tmp 42) rfl _ rfl C' _ HE.out.2.fc Try.underlying23 rfl HI.out.2.2.2 ?_)
                        | (go_at_call 23; refine (HSM.out _ HB4.out).mono ?_; rintro e w9 ⟨rfl, hd⟩; have HB9 := Aside0.mk (below_step HB4.out (Drawn0.below hd)); clear hd))
                      go_ret
                      exact ⟨congrArg (fun b => Ending.returned (Value.bool b)) (decide_eq_false (HNE.out (fun e => C4.out (by rw [← ES4.out, ← ET4.out, e])))).symm, HB4.out⟩
                · have C2 := Aside0.mk c2
                  have r2 : (s2 != t2) = true := by simp [c2]
                  clear c2
                  go_wp2_with (first
                    | ((with_reducible refine gate_dst (N := 34) rfl ?_); (try (refine gate_guard (by rfl) ?_; dsimp only)); refine wpList_load_at rfl 23 (.tmp 33) rfl _ rfl P _ HE.out.1.fp Try.underlying23 rfl HI.out.1 ?_)
                    | ((with_reducible refine gate_dst (N := 36) rfl ?_); (try (refine gate_guard (by rfl) ?_; dsimp only)); refine wpList_load_at rfl 23 (.tmp 35) rfl _ rfl P' _ HE.out.2.fp Try.underlying23 rfl HI.out.2.2.1 ?_)
                    | ((with_reducible refine gate_dst (N := 41) rfl ?_); (try (refine gate_guard (by rfl) ?_; dsimp only)); refine wpList_load_at rfl 23 (.tmp 40) rfl _ rfl C _ HE.out.1.fc Try.underlying23 rfl HI.out.2.1 ?_)
                    | ((with_reducible refine gate_dst (N := 43) rfl ?_); (try (refine gate_guard (by rfl) ?_; dsimp only)); refine wpList_load_at rfl 23 (.tmp 42) rfl _ rfl C' _ HE.out.2.fc Try.underlying23 rfl HI.out.2.2.2 ?_)
                    | (go_at_call 23; refine (HSM.out _ HB4.out).mono ?_; rintro e w9 ⟨rfl, hd⟩; have HB9 := Aside0.mk (below_step HB4.out (Drawn0.below hd)); clear hd))
                  go_ret
                  exact ⟨congrArg (fun b => Ending.returned (Value.bool b)) (decide_eq_false (HNE.out (fun e => C2.out (by rw [← ES2.out, ← ET2.out, e])))).symm, HB4.out⟩
          · have C1 := Aside0.mk c1
            have r1 : (s1 != t1) = true := by simp [c1]
            clear c1
            go_wp2_with (first
              | ((with_reducible refine gate_dst (N := 34) rfl ?_); (try (refine gate_guard (by rfl) ?_; dsimp only)); refine wpList_load_at rfl 23 (.tmp 33) rfl _ rfl P _ HE.out.1.fp Try.underlying23 rfl HI.out.1 ?_)
              | ((with_reducible refine gate_dst (N := 36) rfl ?_); (try (refine gate_guard (by rfl) ?_; dsimp only)); refine wpList_load_at rfl 23 (.tmp 35) rfl _ rfl P' _ HE.out.2.fp Try.underlying23 rfl HI.out.2.2.1 ?_)
              | ((with_reducible refine gate_dst (N := 41) rfl ?_); (try (refine gate_guard (by rfl) ?_; dsimp only)); refine wpList_load_at rfl 23 (.tmp 40) rfl _ rfl C _ HE.out.1.fc Try.underlying23 rfl HI.out.2.1 ?_)
              | ((with_reducible refine gate_dst (N := 43) rfl ?_); (try (refine gate_guard (by rfl) ?_; dsimp only)); refine wpList_load_at rfl 23 (.tmp 42) rfl _ rfl C' _ HE.out.2.fc Try.underlying23 rfl HI.out.2.2.2 ?_)
              | (go_at_call 23; refine (HSM.out _ HB4.out).mono ?_; rintro e w9 ⟨rfl, hd⟩; have HB9 := Aside0.mk (below_step HB4.out (Drawn0.below hd)); clear hd))
            go_ret
            exact ⟨congrArg (fun b => Ending.returned (Value.bool b)) (decide_eq_false (HNE.out (fun e => C1.out (by rw [← ES1.out, ← ET1.out, e])))).symm, HB4.out⟩
      · have hkm : k = m := by omega
        subst hkm
        have HF := Aside0.mk (show a = b by
          have h := HTK.out
          rwa [List.take_of_length_le (by have := HM.out; omega), List.take_of_length_le (by have := HM2.out; omega)] at h)
        clear hlt hk
        go_wp2_with (fail)
        go_ret
        exact ⟨(congrArg (fun b => Ending.returned (Value.bool b)) (decide_eq_true HF.out).symm), HB.out⟩
  · have HF := Aside0.mk (show a ≠ b from fun h => hn (by rw [h]))
    have e1 : ((a.length : Int) == (b.length : Int)) = false := by rw [beq_eq_false_iff_ne]; omega
    have e2 : ((a.length : Int) != (b.length : Int)) = true := by rw [bne_iff_ne]; omega
    have e3 : (a.length == b.length) = false := by rw [beq_eq_false_iff_ne]; exact hn
    have hn2 : ¬ a.length = b.length := hn
    clear h0 h1 hl hl2 hn hs ha hb
    go_enter Try.func20, Try.ntmps20
    go_wp2_with (fail)
    go_ret
    exact ⟨(congrArg (fun b => Ending.returned (Value.bool b)) (decide_eq_false HF.out).symm), HB.out⟩
end Go.Proofs.Ytfpkgdenohcglaa.Chn
