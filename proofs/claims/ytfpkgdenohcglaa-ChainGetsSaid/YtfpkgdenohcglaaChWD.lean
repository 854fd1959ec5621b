/- Own and printed texts, laid together. -/
import Derived.Test.YtfpkgdenohcglaaChWC
import Derived.WalkSpells
/- Redact of chain and of the document. -/
namespace Go.Proofs.Ytfpkgdenohcglaa.Chn
set_option linter.unusedVariables false
set_option linter.unusedSimpArgs false
open Go.RowKit Go.Proofs.Ytfpkgdenohcglaa.Base Go.Proofs.Ytfpkgdenohcglaa.TlvPlain Go.Proofs.Ytfpkgdenohcglaa.ShaPlain Go.Proofs.Ytfpkgdenohcglaa.Sha Go.Proofs.Ytfpkgdenohcglaa.Com Go.Proofs.Ytfpkgdenohcglaa.Aid Go.Proofs.YtfpkgdenohcglaaW.PrintWords Go.Proofs.YtfpkgdenohcglaaW.PrintLast Go.Proofs.YtfpkgdenohcglaaW.PrintMore
/-- An entry's fields, wherever it lies. -/
structure EntF (W : World) (ad : Addr) (x : Ent) (P C : List Value) (A : Option Addr) (c : Nat) : Prop where
  s : W.cell? ad = some (.int .i64 (seqE x))
  fp : AtC W (ad.add 1) P
  fc : AtC W (ad.add 33) C
  sl : W.cell? (ad.add 65) = some (.int .u64 (saltE x))
  py : W.cell? (ad.add 66) = some (.slice A (payE x).length c)
  r : W.cell? (ad.add 67) = some (.bool (redE x))
theorem EntF.below {W W' : World} {ad : Addr} {x : Ent} {P C : List Value} {A : Option Addr} {c : Nat} (h : EntF W ad x P C A c) (hb : Below W.heap.size W W') : EntF W' ad x P C A c :=
  ⟨cell_below hb h.s, h.fp.below hb, h.fc.below hb, cell_below hb h.sl, cell_below hb h.py, cell_below hb h.r⟩
theorem entF {W : World} {ad : Addr} {x : Ent} {P C : List Value} {A : Option Addr} {c : Nat} (hP : P.length = 32) (hC : C.length = 32) (h : AtC W ad (cE x P C A c)) : EntF W ad x P C A c := by
  have h0 : W.cell? ad = some (.int .i64 (seqE x)) := by have h := h 0 _ rfl; rwa [show ad.add 0 = ad from rfl] at h
  have h1 := AtC.right (a := [Value.int .i64 (seqE x)]) (b := P ++ (C ++ [Value.int .u64 (saltE x), .slice A (payE x).length c, .bool (redE x)])) h
  have h2 := h1.right
  rw [hP, show (ad.add [Value.int .i64 (seqE x)].length).add 32 = ad.add 33 from addr_add_add _ _ _] at h2
  have h3 := h2.right
  rw [hC, addr_add_add] at h3
  refine ⟨h0, h1.left, h2.left, ?_, ?_, ?_⟩
  · have h4 := h3 0 _ rfl
    rwa [addr_add_add] at h4
  · have h4 := h3 1 _ rfl
    rwa [addr_add_add] at h4
  · have h4 := h3 2 _ rfl
    rwa [addr_add_add] at h4
theorem set_last (s sl : Int) (P C : List Value) (hP : P.length = 32) (hC : C.length = 32) (A : Option Addr) (n c : Nat) (r : Bool) :
    (((cellsE s P C sl A n c r).set 65 (.int .u64 0)).set 66 (.slice none 0 0)).set 67 (.bool true) = cellsE s P C 0 none 0 0 true := by
  have e : ∀ l : List Value, Value.int .i64 s :: (P ++ (C ++ l)) = (Value.int .i64 s :: (P ++ C)) ++ l := fun l => by simp
  have hn : (Value.int .i64 s :: (P ++ C)).length = 65 := by simp [hP, hC]
  unfold cellsE
  rw [e, e, List.set_append_right _ _ (by rw [hn]; decide), List.set_append_right _ _ (by rw [hn]; decide), List.set_append_right _ _ (by rw [hn]; decide), hn]
  rfl
theorem cut_mk {w : World} {x : Ent} {P C : List Value} {A : Option Addr} {c : Nat} (h : EntC w x P C A c) : EntC w (cutE x) P C none 0 := ⟨h.fp, h.fc, Nat.le_refl _, Kd.C_nil _ _⟩
theorem Rw.cut {w0 w' : World} {base : Nat} {v : Value} {l : List Ent} {rows : List (List Value)} {k : Nat} {x : Ent} {cs : List Value} (hl : rows.length = l.length) (hR : KW.R 27 w' base (fun _ => True) v (rows.set k cs))
    (h0 : ∀ (j : Nat) (x : Ent) (c : List Value), l[j]? = some x → rows[j]? = some c → DEnt.K w0 x c) (hb0 : Below w0.heap.size w0 w') (hx : DEnt.K w0 x cs) : Rw w' base v (l.set k x) := by
  refine ⟨rows.set k cs, by simp [hl], hR, fun j y c hy hc => ?_⟩
  rw [List.getElem?_set] at hy hc
  split at hy
  · next he =>
    rw [if_pos he] at hc
    split at hy
    · next hlt =>
      rw [if_pos (by omega)] at hc
      rw [← Option.some.inj hy, ← Option.some.inj hc]
      exact DEnt.K_below hb0 hx
    · cases hy
  · next he =>
    rw [if_neg he] at hc
    exact DEnt.K_below hb0 (h0 j y c hy hc)
section
variable {ops : Array Oper} {rest : List Oper} {o : Oper} {a : Act} {Q : Exit → Act → World → Prop}
/-- One cell of an entry in a row of one's own. -/
theorem wpList_put {W w0 : World} {base : Nat} (hN : o.dst = none) (hgd : o.guard = none) (t : TypeId) (p x : Operand) (ho : o.op = .store t p x) {g n cap o' : Nat} (k j : Nat) (rows : List (List Value)) (u : Value) (c : List Value)
    (haddr : a.eval p = .pointer (some ⟨g, o', none⟩)) (hoff : o' = k * 68 + j) (hx : a.eval x = u) (hu : u.cells.toList = [u]) (ht : (Try.prog.info? t).map (·.size) = some 1) (h1 : u.oneCell' = true)
    (HO : KW.R 27 W base (fun _ => True) (.slice (some ⟨g, 0, none⟩) n cap) rows) (hk : k < n) (hc : rows[k]? = some c) (hj : j < 68) (HB : Below base w0 W)
    (h : ∀ w1, KW.R 27 w1 base (fun _ => True) (.slice (some ⟨g, 0, none⟩) n cap) (rows.set k (c.set j u)) → Below base w0 w1 → wpList Try.prog ops Q rest a w1) : wpList Try.prog ops Q (o :: rest) a W := by
  obtain ⟨c', hcl, hM, hcc, _⟩ := Kd.R_elem HO [] (k : Int) (by omega) (by omega)
  rw [Int.toNat_natCast] at hM hcc
  have he : c' = c := by
    have h2 := hM.1
    rwa [List.getD_eq_getElem?_getD, hc] at h2
  subst he
  have hcl : c'.length = 68 := hcl
  have hset : c'.take j ++ [u] ++ c'.drop (j + 1) = c'.set j u := by
    rw [List.set_eq_take_append_cons_drop, if_pos (by omega)]
    simp
  refine Kd.R_store KW base hN hgd t p x ho 27 (k : Int) j rows (c'.set j u) u [u] c' (fun _ => True) (fun _ => False) haddr (by rw [hoff, Int.toNat_natCast]; rfl) hx hu ht (fun q hq => by rw [List.mem_singleton.1 hq]; exact h1) HO (by omega) (by omega) hcl (by rw [Int.toNat_natCast]; exact hcc) (by show j + 1 ≤ 68; omega)
    ⟨hset, by show (c'.take j ++ [u] ++ c'.drop (j + 1)).length = 68; rw [hset, List.length_set, hcl], fun q hq => by
      rw [show [u].length = 1 from rfl, hset] at hq
      rcases List.mem_or_eq_of_mem_set hq with h3 | h3
      · exact hM.2.2 q h3
      · rw [h3]; exact h1⟩ (fun _ hk => hk.elim) HB ?_
  intro w1 hr hb hg
  rw [Int.toNat_natCast] at hr
  exact h w1 hr hb
end
abbrev RetR (w : World) (r : List Ent × Int) : Ending → World → Prop := fun e w' => ∃ v, e = .returned (.tuple #[v, .int .i64 r.2]) ∧ Rw w' w.heap.size v r.1 ∧ Below w.heap.size w w'
theorem fin_red {w w5 : World} {l : List Ent} {rows : List (List Value)} {k m g cap : Nat} {x : Ent} {cs : List Value} (hl : rows.length = l.length) (hK : ∀ (j : Nat) (x : Ent) (c : List Value), l[j]? = some x → rows[j]? = some c → DEnt.K w x c)
    (hc : DEnt.K w x cs) (hb : Below w.heap.size w w5)
    (hR : KW.R 27 w5 w.heap.size (fun _ => True) (.slice (some ⟨g, 0, none⟩) m cap) (rows.set k (((cs.set 65 (.int .u64 0)).set 66 (.slice none 0 0)).set 67 (.bool true)))) :
    Rw w5 w.heap.size (.slice (some ⟨g, 0, none⟩) m cap) (l.set k (cutE x)) := by
  obtain ⟨P, C, A, c, hC, rfl⟩ := ent_open hc
  rw [set_last _ _ _ _ hC.fp.lenC hC.fc.lenC] at hR
  exact Rw.cut hl hR hK hb (ent_mk (cut_mk hC))
theorem redT_in (l : List Ent) (k : Nat) (h : k < l.length) : redT l (k : Int) = if redE l[k] then ([], 13) else (l.set k (cutE l[k]), 0) := by
  unfold redT
  rw [if_pos (by omega), Int.toNat_natCast, List.getElem?_eq_getElem h]
set_option maxHeartbeats 4000000 in
set_option maxRecDepth 100000 in
theorem redact_in (l : List Ent) (m : Nat) (hl : l.length = m) (hm : m ≤ 100000) (k : Nat) (hk : k < m) (A : Option Addr) (c : Nat) (hc : m ≤ c) (w : World) (hr : Re w A l) :
    Calls Try.prog 15 #[.slice A m c, .int .i64 k] w (RetR w (redT l (k : Int))) := by
  rw [redT_in l k (by omega)]
  obtain ⟨ad, P, C, B, cb, rfl, hat, hC⟩ := re_at hr k (by omega)
  have HEF := Aside0.mk (entF hC.fp.lenC hC.fc.lenC hat)
  obtain ⟨x, hx⟩ : ∃ x, l[k]'(by omega) = x := ⟨_, rfl⟩
  have HXK := Aside0.mk (show l[k]? = some x from by rw [List.getElem?_eq_getElem (by omega), hx])
  rw [hx] at hat hC HEF ⊢
  have HC := Aside0.mk hC
  have HAT := Aside0.mk hat
  have q0 : (0 : Int) ≤ (k : Int) := by omega
  have q1 : (k : Int) < (m : Int) := by omega
  have q2 : decide ((k : Int) < 0) = false := decide_eq_false (by omega)
  have q3 : decide ((m : Int) ≤ (k : Int)) = false := decide_eq_false (by omega)
  have q4 : decide (m ≤ k) = false := decide_eq_false (by omega)
  have q5 : (k : Int) ≤ 100000 := by omega
  have HM := Aside0.mk hm
  have HK := Aside0.mk hk
  have HL := Aside0.mk hl
  have HR := Aside0.mk hr
  unfold RetR
  have HCL := Aside0.mk (eclone_c l m hl hm (some ad) c hc w hr)
  have hred : w.cell? ⟨(ad.add (k * 68)).block, (ad.add (k * 68)).off + 67, none⟩ = some (.bool (redE x)) := HEF.out.r
  obtain ⟨rd, hrd⟩ : ∃ rd, redE x = rd := ⟨_, rfl⟩
  rw [hrd] at hred ⊢
  clear hl hm hk hc hr hat hC hx hrd
  cases rd with
  | true =>
    rw [if_pos rfl]
    go_enter Try.func15, Try.ntmps15
    go_wp2_with (fail)
    go_ret2
    exact ⟨_, rfl, Rw.nil _ _, Below.refl _ _⟩
  | false =>
    rw [if_neg Bool.false_ne_true]
    go_enter Try.func15, Try.ntmps15
    go_wp2_with (fail)
    refine HCL.out.mono ?_
    rintro e w2 ⟨v, rows, rfl, hrl, hR, hK, hb⟩
    obtain ⟨g, cap, hv, hg1, hg2, _⟩ := Kd.R_form hR (by rw [hrl, HL.out]; exact Nat.lt_of_le_of_lt (Nat.zero_le _) HK.out)
    subst hv
    rw [hrl, HL.out] at hR ⊢
    have hkr : k < rows.length := by rw [hrl, HL.out]; exact HK.out
    have HRK := Aside0.mk (List.getElem?_eq_getElem hkr)
    obtain ⟨cs, hcs⟩ : ∃ cs, rows[k] = cs := ⟨_, rfl⟩
    rw [hcs] at HRK
    have HKC := Aside0.mk (hK k x cs HXK.out HRK.out)
    have HR2 := Aside0.mk hR
    have HKK := Aside0.mk hK
    have HRL := Aside0.mk hrl
    have HB2 := Aside0.mk hb
    have HKR := Aside0.mk hkr
    clear hrl hR hK hb hg1 hg2 hkr hcs hred
    go_wp2_with (first
      | ((with_reducible refine gate_store (t := 24) (p := 31) (v := _) rfl ?_); refine wpList_put (w0 := w2) (base := w.heap.size) rfl rfl 24 (.tmp 31) _ rfl k 65 rows (.int .u64 0) cs rfl (by first | rfl | omega) rfl rfl (by kernel_rfl) rfl HR2.out HK.out HRK.out (by decide) ⟨rfl, rfl, rfl, Nat.le_refl _, fun _ _ => rfl⟩ ?_; intro w3 ho hb; have HR3 := Aside0.mk ho; have HB3 := Aside0.mk hb; clear ho hb)
      | ((with_reducible refine gate_store (t := 25) (p := 33) (v := _) rfl ?_); refine wpList_put (w0 := w2) (base := w.heap.size) rfl rfl 25 (.tmp 33) _ rfl k 66 _ (.slice none 0 0) _ rfl (by first | rfl | omega) rfl rfl (by kernel_rfl) rfl HR3.out HK.out (List.getElem?_set_self HKR.out) (by decide) HB3.out ?_; intro w4 ho hb; have HR4 := Aside0.mk ho; have HB4 := Aside0.mk hb; clear ho hb)
      | ((with_reducible refine gate_store (t := 4) (p := 35) (v := _) rfl ?_); refine wpList_put (w0 := w2) (base := w.heap.size) rfl rfl 4 (.tmp 35) _ rfl k 67 _ (.bool true) _ rfl (by first | rfl | omega) rfl rfl (by kernel_rfl) rfl HR4.out HK.out (List.getElem?_set_self (by rw [List.length_set]; exact HKR.out)) (by decide) HB4.out ?_; intro w5 ho hb; have HR5 := Aside0.mk ho; have HB5 := Aside0.mk hb; clear ho hb))
    go_ret2
    have hR5 := HR5.out
    rw [List.set_set, List.set_set] at hR5
    exact ⟨_, rfl, fin_red HRL.out HKK.out HKC.out (HB2.out.trans HB5.out) hR5, HB2.out.trans HB5.out⟩
end Go.Proofs.Ytfpkgdenohcglaa.Chn
/- The walks of a reader's Num, Count and Text. -/
namespace Go.Proofs.Ytfpkgdenohcglaa.Tlv
open Go.Proofs.Ytfpkgdenohcglaa.Base Go.Proofs.Ytfpkgdenohcglaa.TlvPlain Go.RowKit Go.Proofs.YtfpkgdenohcglaaW.PrintWords Go.Proofs.YtfpkgdenohcglaaW.PrintLast Go.Proofs.YtfpkgdenohcglaaW.PrintMore

theorem take1_cons (x : Int) (r : List Int) : takeO (some (x :: r)) 1 = ([x], some r) := by
  simp only [takeO]
  rw [if_pos (by rw [List.length_cons]; omega)]
  rfl
set_option maxHeartbeats 1600000 in
set_option maxRecDepth 100000 in
theorem num_none (w0 w : World) (g : Nat) (st : Option (List Int)) (h : RdO w0 w g st) (hB : Below w0.heap.size w0 w) (hst : takeO st 1 = ([], none)) :
    Calls Try.prog 87 #[.pointer (some ⟨g, 0, none⟩)] w fun e w' => e = .returned (.int .u64 0) ∧ Left w0 w w' g none := by
  have HS := Aside0.mk h
  have HB := Aside0.mk hB
  have E1 := Aside0.mk hst
  clear h hB hst
  go_enter Try.func87, Try.ntmps87
  go_wp2_with (first
    | (go_at_call 92; refine (takeO_ _ _ _ _ _ HS.out HB.out).mono ?_; rintro e w1 ⟨v, rfl, ho, hl⟩; rw [E1.out] at ho hl; have HL := Aside0.mk hl; clear ho hl)
    | (go_at_call 63; refine (okO _ _ _ _ HL.out.1).mono ?_; rintro e w' ⟨rfl, rfl⟩)
    | (go_at_call 101; refine (failO _ _ _ _ HL.out.1 HL.out.2.1).mono ?_; rintro e w2 ⟨rfl, hf⟩; have HF := Aside0.mk hf; clear hf))
  go_ret
  exact ⟨rfl, HL.out.trans HF.out⟩

set_option maxHeartbeats 1600000 in
set_option maxRecDepth 100000 in
theorem num_wide (w0 w : World) (g : Nat) (x : Int) (r : List Int) (h : RdO w0 w g (some (x :: r))) (hB : Below w0.heap.size w0 w) (hx : 8 < x) :
    Calls Try.prog 87 #[.pointer (some ⟨g, 0, none⟩)] w fun e w' => e = .returned (.int .u64 0) ∧ Left w0 w w' g none := by
  have HS := Aside0.mk h
  have HB := Aside0.mk hB
  have E1 := Aside0.mk (take1_cons x r)
  have hd : decide (8 < x) = true := decide_eq_true hx
  clear h hB hx
  go_enter Try.func87, Try.ntmps87
  go_wp2_with (first
    | (go_at_call 92; refine (takeO_ _ _ _ _ _ HS.out HB.out).mono ?_; rintro e w1 ⟨v, rfl, ho, hl⟩; rw [E1.out] at ho hl; have HL := Aside0.mk hl; obtain ⟨A, c, rfl, hlc, hrd⟩ := Ob.reads ho; obtain ⟨ad, rfl, hc0⟩ := Rb.at0 hrd; clear ho hl hrd hlc)
    | (go_at_call 63; refine (okO _ _ _ _ HL.out.1).mono ?_; rintro e w' ⟨rfl, rfl⟩)
    | (go_at_call 101; refine (failO _ _ _ _ HL.out.1 HL.out.2.1).mono ?_; rintro e w2 ⟨rfl, hf⟩; have HF := Aside0.mk hf; clear hf))
  go_ret
  exact ⟨rfl, HL.out.trans HF.out⟩

set_option maxHeartbeats 1600000 in
set_option maxRecDepth 100000 in
theorem num_short (w0 w : World) (g : Nat) (x : Int) (r : List Int) (h : RdO w0 w g (some (x :: r))) (hB : Below w0.heap.size w0 w) (hx0 : 0 ≤ x) (hx : x ≤ 8) (hl : (r.length : Int) < x) :
    Calls Try.prog 87 #[.pointer (some ⟨g, 0, none⟩)] w fun e w' => e = .returned (.int .u64 0) ∧ Left w0 w w' g none := by
  have HS := Aside0.mk h
  have HB := Aside0.mk hB
  have E1 := Aside0.mk (take1_cons x r)
  have E2 := Aside0.mk (show takeO (some r) x = ([], none) by simp only [takeO]; rw [if_neg (by omega)])
  have hd : decide (8 < x) = false := decide_eq_false (by omega)
  clear h hB hl
  go_enter Try.func87, Try.ntmps87
  go_wp2_with (fail)
  refine (takeO_ _ _ _ _ _ HS.out HB.out).mono ?_; rintro e w1 ⟨v, rfl, ho, hl⟩; rw [E1.out] at ho hl; have HL := Aside0.mk hl; obtain ⟨A, c, rfl, hlc, hrd⟩ := Ob.reads ho; obtain ⟨ad, rfl, hc0⟩ := Rb.at0 hrd; clear ho hl hrd hlc
  go_wp2_with (first
    | (go_at_call 63; refine (okO _ _ _ _ HL.out.1).mono ?_; rintro e w' ⟨rfl, rfl⟩)
    | (go_at_call 101; refine (failO _ _ _ _ HL.out.1 HL.out.2.1).mono ?_; rintro e w2 ⟨rfl, hf⟩; have HF := Aside0.mk hf; clear hf))
  refine (takeO_ _ _ _ _ _ HL.out.1 HL.out.2.1).mono ?_; rintro e w2 ⟨v, rfl, ho, hl⟩; rw [E2.out] at ho hl; have HL2 := Aside0.mk (HL.out.trans hl); clear HL ho hl
  go_wp2_with (first
    | (go_at_call 63; refine (okO _ _ _ _ HL2.out.1).mono ?_; rintro e w' ⟨rfl, rfl⟩)
    | (go_at_call 101; refine (failO _ _ _ _ HL2.out.1 HL2.out.2.1).mono ?_; rintro e w2 ⟨rfl, hf⟩; have HF := Aside0.mk hf; clear hf))
  go_ret
  exact ⟨rfl, HL2.out.trans HF.out⟩

set_option maxHeartbeats 1600000 in
set_option maxRecDepth 100000 in
theorem num_zero (w0 w : World) (g : Nat) (x y : Int) (r : List Int) (h : RdO w0 w g (some (x :: y :: r))) (hB : Below w0.heap.size w0 w) (hx0 : 0 < x) (hx : x ≤ 8) (hl : x ≤ (r.length : Int) + 1) (hy : y = 0) :
    Calls Try.prog 87 #[.pointer (some ⟨g, 0, none⟩)] w fun e w' => e = .returned (.int .u64 0) ∧ Left w0 w w' g none := by
  subst hy
  have HS := Aside0.mk h
  have HB := Aside0.mk hB
  have E1 := Aside0.mk (take1_cons x (0 :: r))
  have E2 := Aside0.mk (show takeO (some (0 :: r)) x = (0 :: r.take (x.toNat - 1), some ((0 :: r).drop x.toNat)) by
    simp only [takeO]
    rw [if_pos (by rw [List.length_cons]; omega)]
    obtain ⟨m, hm⟩ : ∃ m, x.toNat = m + 1 := ⟨x.toNat - 1, by omega⟩
    rw [hm]; rfl)
  have hd : decide (8 < x) = false := decide_eq_false (by omega)
  clear h hB hl
  go_enter Try.func87, Try.ntmps87
  go_wp2_with (fail)
  refine (takeO_ _ _ _ _ _ HS.out HB.out).mono ?_; rintro e w1 ⟨v, rfl, ho, hl⟩; rw [E1.out] at ho hl; have HL := Aside0.mk hl; obtain ⟨A, c, rfl, hlc, hrd⟩ := Ob.reads ho; obtain ⟨ad, rfl, hc0⟩ := Rb.at0 hrd; clear ho hl hrd hlc
  go_wp2_with (first
    | (go_at_call 63; refine (okO _ _ _ _ HL.out.1).mono ?_; rintro e w' ⟨rfl, rfl⟩))
  refine (takeO_ _ _ _ _ _ HL.out.1 HL.out.2.1).mono ?_; rintro e w2 ⟨v, rfl, ho, hl⟩; rw [E2.out] at ho hl; have HL2 := Aside0.mk (HL.out.trans hl); obtain ⟨A2, c2, rfl, hlc, hrd⟩ := Ob.reads ho; obtain ⟨ad2, rfl, hc2⟩ := Rb.at0 hrd; clear HL ho hl hlc hrd
  have hl0 : decide (0 < (0 :: r.take (x.toNat - 1)).length) = true := decide_eq_true (by simp)
  generalize (0 :: r.take (x.toNat - 1)).length = nn at hl0 ⊢
  have hl2 : 0 < nn := of_decide_eq_true hl0
  have hl1 : decide (0 < (nn : Int)) = true := decide_eq_true (by omega)
  go_wp2_with (first
    | (go_at_call 63; refine (okO _ _ _ _ HL2.out.1).mono ?_; rintro e w' ⟨rfl, rfl⟩)
    | (go_at_call 101; refine (failO _ _ _ _ HL2.out.1 HL2.out.2.1).mono ?_; rintro e w2 ⟨rfl, hf⟩; have HF := Aside0.mk hf; clear hf))
  go_ret
  exact ⟨rfl, HL2.out.trans HF.out⟩

/-- One round more: the value of one byte more. -/
theorem value_step {l : List Int} (hu : U8 l) (h8 : l.length ≤ 8) (i : Nat) (hi : i < l.length) :
    Go.bits .or .u64 (IntKind.u64.wrap (valueB (l.take i) * 256)) (IntKind.u64.wrap (rd l (i : Int))) = valueB (l.take (i + 1)) := by
  have h1 := valueB_range (hu.take i)
  rw [List.length_take, Nat.min_eq_left (by omega)] at h1
  have h2 := valueB_u64 (hu.take (i + 1)) (by rw [List.length_take]; omega)
  have hx := hu _ (List.getElem_mem hi)
  rw [rd_nat' l i hi, List.take_succ_eq_append_getElem hi, valueB_snoc]
  rw [List.take_succ_eq_append_getElem hi, valueB_snoc] at h2
  have hb : valueB (l.take i) * 256 + 255 ≤ 18446744073709551615 := by
    have key : ∀ n : Nat, n ≤ 7 → (256 : Int) ^ n ≤ 72057594037927936 := by
      intro n hn
      have : n = 0 ∨ n = 1 ∨ n = 2 ∨ n = 3 ∨ n = 4 ∨ n = 5 ∨ n = 6 ∨ n = 7 := by omega
      rcases this with rfl | rfl | rfl | rfl | rfl | rfl | rfl | rfl <;> decide +kernel
    have := key i (by omega)
    omega
  rw [IntWalk.u64_in (valueB (l.take i) * 256) (by omega), IntWalk.u64_in l[i] (by omega)]
  exact or_byte _ _ h1.1 hb hx.1 hx.2

set_option maxHeartbeats 3200000 in
set_option maxRecDepth 100000 in
theorem num_good (w0 w : World) (g : Nat) (x : Int) (r : List Int) (h : RdO w0 w g (some (x :: r))) (hB : Below w0.heap.size w0 w) (hx0 : 0 ≤ x) (hx : x ≤ 8) (hl : x ≤ (r.length : Int)) (hy : ¬ (0 < x ∧ r.getD 0 0 = 0)) :
    Calls Try.prog 87 #[.pointer (some ⟨g, 0, none⟩)] w fun e w' => e = .returned (.int .u64 (valueB (r.take x.toNat))) ∧ Left w0 w w' g (some (r.drop x.toNat)) := by
  have HS := Aside0.mk h
  have HB := Aside0.mk hB
  have HU := Aside0.mk ((h.u8.1.tail).take x.toNat)
  have E1 := Aside0.mk (take1_cons x r)
  have E2 := Aside0.mk (show takeO (some r) x = (r.take x.toNat, some (r.drop x.toNat)) by simp only [takeO]; rw [if_pos ⟨hx0, hl⟩])
  obtain ⟨l, hL⟩ : ∃ l, l = r.take x.toNat := ⟨_, rfl⟩
  have hlen : l.length = x.toNat := by rw [hL, List.length_take]; omega
  have hb : (decide (0 < l.length) && (rd l 0 == 0)) = false := by
    rw [Bool.and_eq_false_iff]
    by_cases h0 : 0 < x
    · right
      rw [beq_eq_false_iff_ne]
      intro e
      apply hy
      refine ⟨h0, ?_⟩
      rw [hL] at e
      obtain ⟨m, hm⟩ : ∃ m, x.toNat = m + 1 := ⟨x.toNat - 1, by omega⟩
      cases r with
      | nil => simp at hl; omega
      | cons y r => simpa [rd, hm] using e
    · left
      exact decide_eq_false (by omega)
  rw [← hL] at HU E2 ⊢
  have h8 : l.length ≤ 8 := by omega
  have hd : decide (8 < x) = false := decide_eq_false (by omega)
  clear h hB hl hy hL hlen
  go_enter Try.func87, Try.ntmps87
  go_wp2_with (fail)
  refine (takeO_ _ _ _ _ _ HS.out HB.out).mono ?_; rintro e w1 ⟨v, rfl, ho, hl⟩; rw [E1.out] at ho hl; have HL := Aside0.mk hl; obtain ⟨A, c, rfl, hlc, hrd⟩ := Ob.reads ho; obtain ⟨ad, rfl, hc0⟩ := Rb.at0 hrd; clear ho hl hrd hlc
  go_wp2_with (first
    | (go_at_call 63; refine (okO _ _ _ _ HL.out.1).mono ?_; rintro e w' ⟨rfl, rfl⟩))
  refine (takeO_ _ _ _ _ _ HL.out.1 HL.out.2.1).mono ?_; rintro e w2 ⟨v, rfl, ho, hl⟩; rw [E2.out] at ho hl; have HL2 := Aside0.mk (HL.out.trans hl); obtain ⟨A2, c2, rfl, hlc, hrd⟩ := Ob.reads ho; have HRD := Aside0.mk hrd; clear HL ho hl hlc hrd hx0
  by_cases hz : 0 < l.length
  · have hzi : (0 : Int) < (l.length : Int) := by omega
    obtain ⟨ad2, hA2, hc2⟩ := Kd.at_int HRD.out 0 (Int.le_refl _) hzi
    subst hA2
    have hz0 : decide (0 < l.length) = true := decide_eq_true hz
    have hz1 : decide (0 < (l.length : Int)) = true := decide_eq_true (by omega)
    have hb1 : (rd l 0 == 0) = false := by rw [hz0, Bool.true_and] at hb; exact hb
    have hc3 : w2.cell? ad2 = some (.int .u8 (rd l 0)) := by simpa [Addr.add] using hc2
    clear hb hc2
    go_wp2_with (first
      | (go_at_call 63; refine (okO _ _ _ _ HL2.out.1).mono ?_; rintro e w' ⟨rfl, rfl⟩))
    clear hz0 hz1 hb1 hc3 hzi
    go_loop [5, 45] (fun n i => ∃ k : Nat, k ≤ l.length ∧ i = .int .i64 k ∧ n = .int .u64 (valueB (l.take k))) (fun _ i => l.length - (intOf i).toNat)
    case atStart => exact ⟨0, Nat.zero_le _, rfl, rfl⟩
    case round =>
      obtain ⟨k, hk, rfl, rfl⟩ := hrel
      by_cases hlt : k < l.length
      · obtain ⟨ad3, hA3, hc3⟩ := Kd.at_int HRD.out (k : Int) (Int.natCast_nonneg k) (by omega)
        injection hA3 with hA3
        subst hA3
        rw [Int.toNat_natCast] at hc3
        have HV := Aside0.mk (value_step HU.out h8 k hlt)
        go_wp2
        go_round
        case rel => exact ⟨k + 1, by omega, by go_num, by rw [← HV.out]⟩
        case measure => simp [intOf]; omega
      · go_wp2
        go_ret
        have hkl : k = l.length := by omega
        exact ⟨by rw [hkl, List.take_length]; rfl, HL2.out⟩
  · have hz0 : decide (0 < l.length) = false := decide_eq_false hz
    have hl0 : l = [] := List.length_eq_zero_iff.1 (by omega)
    subst hl0
    clear hb hz hz0 h8
    have hf0 : decide ((0 : Int) < 0) = false := rfl
    go_wp2_with (first
      | (go_at_call 63; refine (okO _ _ _ _ HL2.out.1).mono ?_; rintro e w' ⟨rfl, rfl⟩))
    go_loop [5, 45] (fun n i => i = .int .i64 0 ∧ n = .int .u64 0) (fun _ _ => 0)
    case atStart => exact ⟨rfl, rfl⟩
    case round =>
      obtain ⟨rfl, rfl⟩ := hrel
      go_wp2
      go_ret
      exact ⟨rfl, HL2.out⟩

theorem numO_ (w0 w : World) (g : Nat) (st : Option (List Int)) (h : RdO w0 w g st) (hB : Below w0.heap.size w0 w) :
    Calls Try.prog 87 #[.pointer (some ⟨g, 0, none⟩)] w fun e w' => e = .returned (.int .u64 (numO st).1) ∧ Left w0 w w' g (numO st).2 := by
  match st, h with
  | none, h => exact num_none w0 w g none h hB rfl
  | some [], h => exact num_none w0 w g (some []) h hB rfl
  | some (x :: r), h =>
    have hx0 := h.u8.1.head.1
    simp only [numO]
    by_cases h1 : x > 8
    · rw [if_pos h1]; exact num_wide w0 w g x r h hB h1
    · rw [if_neg h1]
      by_cases h2 : (r.length : Int) < x
      · rw [if_pos h2]; exact num_short w0 w g x r h hB hx0 (by omega) h2
      · rw [if_neg h2]
        by_cases h3 : 0 < x ∧ r.getD 0 0 = 0
        · rw [if_pos h3]
          cases r with
          | nil => simp at h2; omega
          | cons y r => exact num_zero w0 w g x y r h hB h3.1 (by omega) (by simp at h2; omega) (by simpa using h3.2)
        · rw [if_neg h3]; exact num_good w0 w g x r h hB hx0 (by omega) (by omega) h3


set_option maxHeartbeats 1600000 in
set_option maxRecDepth 100000 in
theorem countO_ (w0 w : World) (g : Nat) (st : Option (List Int)) (most : Int) (h : RdO w0 w g st) (hB : Below w0.heap.size w0 w) (hm : most ≤ 9223372036854775807) :
    Calls Try.prog 86 #[.pointer (some ⟨g, 0, none⟩), .int .i64 most] w fun e w' => e = .returned (.int .i64 (countO st most).1) ∧ Left w0 w w' g (countO st most).2 := by
  have HS := Aside0.mk h
  have HB := Aside0.mk hB
  have hr := numO_range (st := st) (fun bs e => by subst e; exact h.u8.1)
  unfold countO
  obtain ⟨nv, hnv⟩ : ∃ nv, nv = (numO st).1 := ⟨_, rfl⟩
  rw [← hnv] at hr ⊢
  have HN := Aside0.mk hnv
  have HR := Aside0.mk hr
  have HM := Aside0.mk hm
  clear hm
  clear hr hnv h hB
  by_cases h1 : most < 0
  · rw [if_pos (Or.inl h1)]
    have hd : decide (most < 0) = true := decide_eq_true h1
    clear h1
    go_enter Try.func86, Try.ntmps86
    go_wp2_with (first
      | (go_at_call 87; refine (numO_ _ _ _ _ HS.out HB.out).mono ?_; rintro e w1 ⟨rfl, hl⟩; rw [← HN.out]; have HL := Aside0.mk hl; clear hl)
      | (go_at_call 101; refine (failO _ _ _ _ HL.out.1 HL.out.2.1).mono ?_; rintro e w2 ⟨rfl, hf⟩; have HF := Aside0.mk hf; clear hf))
    go_ret
    exact ⟨rfl, HL.out.trans HF.out⟩
  · have hd : decide (most < 0) = false := decide_eq_false h1
    have hw : IntKind.u64.wrap most = most := IntWalk.u64_in _ (by have := HM.out; omega)
    by_cases h2 : nv > most
    · rw [if_pos (Or.inr h2)]
      have hd2 : decide (most < nv) = true := decide_eq_true h2
      clear h1 h2
      go_enter Try.func86, Try.ntmps86
      go_wp2_with (first
        | (go_at_call 87; refine (numO_ _ _ _ _ HS.out HB.out).mono ?_; rintro e w1 ⟨rfl, hl⟩; rw [← HN.out]; have HL := Aside0.mk hl; clear hl)
        | (go_at_call 101; refine (failO _ _ _ _ HL.out.1 HL.out.2.1).mono ?_; rintro e w2 ⟨rfl, hf⟩; have HF := Aside0.mk hf; clear hf))
      go_ret
      exact ⟨rfl, HL.out.trans HF.out⟩
    · rw [if_neg (by omega)]
      have hd2 : decide (most < nv) = false := decide_eq_false h2
      have hv : wrap64 nv = nv := IntWalk.wrap64_in _ (by have := HM.out; have := HR.out; omega)
      clear h1 h2
      go_enter Try.func86, Try.ntmps86
      go_wp2_with (first
        | (go_at_call 87; refine (numO_ _ _ _ _ HS.out HB.out).mono ?_; rintro e w1 ⟨rfl, hl⟩; rw [← HN.out]; have HL := Aside0.mk hl; clear hl))
      go_ret
      exact ⟨by rw [← HN.out, hv]; rfl, HL.out⟩

set_option maxHeartbeats 800000 in
theorem textO_ (w0 w : World) (g : Nat) (st : Option (List Int)) (most : Int) (h : RdO w0 w g st) (hB : Below w0.heap.size w0 w) (hm : most ≤ 9223372036854775807) :
    Calls Try.prog 88 #[.pointer (some ⟨g, 0, none⟩), .int .i64 most] w fun e w' => ∃ v, e = .returned v ∧ Ob w' w.heap.size v (textO st most).1 ∧ Left w0 w w' g (textO st most).2 := by
  have HS := Aside0.mk h
  have HB := Aside0.mk hB
  have HM := Aside0.mk hm
  clear hm h hB
  go_enter Try.func88, Try.ntmps88
  go_wp2_with (first
    | (go_at_call 86; refine (countO_ _ _ _ _ _ HS.out HB.out HM.out).mono ?_; rintro e w1 ⟨rfl, hl⟩; have HL := Aside0.mk hl; clear hl)
    | (go_at_call 92; refine (takeO_ _ _ _ _ _ HL.out.1 HL.out.2.1).mono ?_; rintro e w2 ⟨v, rfl, ho, hl⟩; have HO := Aside0.mk ho; have HT := Aside0.mk hl; clear hl ho))
  go_ret
  exact ⟨_, rfl, Kd.R_lower HO.out HL.out.2.2.1, HL.out.trans HT.out⟩
end Go.Proofs.Ytfpkgdenohcglaa.Tlv
/- chain.sum walked: the next sum of a reader. -/
namespace Go.Proofs.Ytfpkgdenohcglaa.Chn
set_option linter.unusedVariables false
set_option linter.unusedSimpArgs false
open Go.RowKit Go.Proofs.Ytfpkgdenohcglaa.Lo Go.Proofs.Ytfpkgdenohcglaa.RdPlain Go.Proofs.Ytfpkgdenohcglaa.Base Go.Proofs.Ytfpkgdenohcglaa.TlvPlain Go.Proofs.Ytfpkgdenohcglaa.ShaPlain Go.Proofs.Ytfpkgdenohcglaa.Sha Go.Proofs.Ytfpkgdenohcglaa.Com Go.Proofs.Ytfpkgdenohcglaa.Aid Go.Proofs.YtfpkgdenohcglaaW.PrintWords Go.Proofs.YtfpkgdenohcglaaW.PrintLast Go.Proofs.YtfpkgdenohcglaaW.PrintMore
open Tlv (RdO takeO_ okO numO_ textO_ leftO_ newO)
attribute [local irreducible] shaB
theorem left_below {w0 w W W1 : World} {g : Nat} {s : Option (List Int)} (h : Tlv.Left w0 w W g s) (hb : Below W.heap.size W W1) : Tlv.Left w0 w W1 g s := ⟨h.1.below hb, below_step h.2.1 hb, h.2.2.trans (KeepBut.of_below hb g none) (.inl rfl)⟩
theorem left_grown {w0 w W W1 : World} {g : Nat} {s : Option (List Int)} {row : Option Nat} (h : Tlv.Left w0 w W g s) (hb : Below w.heap.size W W1) (hg : W.grownBy W1 row) (hr : ∀ b, row = some b → g < b ∧ w0.heap.size ≤ b) (h0 : w0.heap.size ≤ w.heap.size) : Tlv.Left w0 w W1 g s :=
  ⟨h.1.grown hg (fun b e => (hr b e).1), h.2.1.trans (hb.mono h0), Nat.le_trans h.2.2.1 hb.size, fun i hi h1 h2 => (hb.block i hi).trans (h.2.2.2 i hi h1 h2)⟩
theorem grown_setRow (W : World) (g : Nat) (D : Array Value) : W.grownBy (W.setRow g D) (some g) := by
  have h := below_setRow (Below.refl 0 W) (Nat.zero_le g) D
  exact ⟨h.os, h.tape, h.output, h.size, fun k _ hk => setRow_other _ _ _ _ (fun e => hk (by rw [e]))⟩
/-- A row of bytes that is read, cell by cell. -/
theorem rb_cells {w : World} {ad : Addr} {d : List Int} (h : Rb w (some ad) d) : AtC w ad (nums .u8 d) := fun j v hj => by
  unfold nums at hj
  rw [List.getElem?_map] at hj
  obtain ⟨x, hx, rfl⟩ := Option.map_eq_some_iff.1 hj
  obtain ⟨a, ha, hc⟩ := h.2.2 (by have := (List.getElem?_eq_some_iff.1 hx).1; omega)
  cases ha
  obtain ⟨cs, hl, hK, hat⟩ := hc j x hx
  have h2 := hat 0 (.int .u8 x) (by rw [show cs = [Value.int .u8 x] from hK]; rfl)
  rw [show j * (Kd.int .u8).sz + 0 = j from by show j * 1 + 0 = j; omega] at h2
  exact h2
section
variable {o : Oper} {a : Act} {Q : Exit → Act → World → Prop} {Kc : Act → World → Prop} {W : World}
theorem run_copy_b (w : World) (ty : TypeId) (g sCap : Nat) (sd : Addr) (cur : Array Value) (t : TypeId) (cs : List Value)
    (hg : w.heap[g]? = some (.cells cur t (0, 0))) (hn : cs.length = 32) (hsrc : AtC w sd cs) (hfit : cs.length ≤ cur.size) (h1 : ∀ v ∈ cs, v.oneCell' = true) :
    (Builtin.copy_ #[25, 25] ty #[.slice (some ⟨g, 0, none⟩) 32 32, .slice (some sd) 32 sCap]).run Try.prog w =
      .ok (goInt 32) (w.setRow g (cs ++ cur.toList.drop cs.length).toArray) := by
  have hl := run_loadCells_list (P := Try.prog) w sd cs hsrc
  have hst := run_storeCells_at Try.prog g 0 t cs 0 cur w hg (by simpa using hfit) h1
  obtain ⟨i, hi, hz, hs, hb⟩ := info_parts info_u8
  rw [hn] at hl
  simp [Builtin.copy_, run_underlying Try.underlying25, Builtin.lenOf, Builtin.firstCells, sizeOf, typeInfo, hi, hs, hl, hst]
theorem run_copy_b0 (w : World) (ty : TypeId) (d s : Option Addr) (n dCap sCap : Nat) :
    (Builtin.copy_ #[25, 25] ty #[.slice d n dCap, .slice s 0 sCap]).run Try.prog w = .ok (goInt 0) w := by
  have hl : ∀ (x : Addr), (loadCells x 0).run Try.prog w = .ok #[] w := fun x => by simpa using run_loadCells_list (P := Try.prog) w x [] (by simp)
  obtain ⟨i, hi, hz, hs, hb⟩ := info_parts info_u8
  cases d <;> cases s <;> simp [Builtin.copy_, run_underlying Try.underlying25, Builtin.lenOf, Builtin.firstCells, sizeOf, typeInfo, hi, storeCells, hl]
/-- copy(d[:], b): 32 bytes, or none. -/
theorem wp_copy_sum (d s : Operand) (ho : o.op = .call { callee := .builtin .copy, args := #[d, s], argTypes := #[25, 25] }) (g c : Nat) (A : Option Addr) (xs : List Int)
    (hd : a.eval d = .slice (some ⟨g, 0, none⟩) 32 32) (hs : a.eval s = .slice A xs.length c) (hg : W.heap[g]? = some (.cells Z32 23 (0, 0))) (hl : xs.length = 0 ∨ xs.length = 32) (hr : Rb W A xs)
    (k : ∀ (W' : World) (n : Int), W.grownBy W' (some g) → W'.heap[g]? = some (.cells (nums .u8 (if xs.length = 32 then xs else Z)).toArray 23 (0, 0)) → Kc (a.put o.dst (.int .i64 n)) W') : Oper.wp Try.prog o a W Kc Q := by
  rcases hl with hl | hl
  · have hrun := run_copy_b0 W o.type (some ⟨g, 0, none⟩) A 32 32 c
    rw [hl] at hs
    have h2 := k W 0 (World.grownBy.refl W _) (by rw [if_neg (by omega)]; exact hg)
    unfold Oper.wp execOp
    simp only [ho, resolve, invoke, builtin, Sem.run_bind, Sem.run_pure, Result.andThen_ok, List.map_toArray, List.map_cons, List.map_nil, hd, hs, hrun]
    exact h2
  · obtain ⟨sd, rfl, _⟩ := hr.2.2 (by omega)
    have hn : (nums .u8 xs).length = 32 := by simp [nums, hl]
    have hrun := run_copy_b W o.type g c sd Z32 23 (nums .u8 xs) hg hn (rb_cells hr) (by rw [hn]; decide) (fun v hv => by obtain ⟨y, _, rfl⟩ := List.mem_map.1 hv; rfl)
    rw [show nums .u8 xs ++ Z32.toList.drop (nums .u8 xs).length = nums .u8 xs from by rw [hn, List.drop_of_length_le (by simp [Z32, nums]), List.append_nil]] at hrun
    have h2 := k _ 32 (grown_setRow W g (nums .u8 xs).toArray) (by rw [if_pos hl]; exact setRow_heap _ _ _ _ _ _ hg)
    rw [hl] at hs
    unfold Oper.wp execOp
    simp only [ho, resolve, invoke, builtin, Sem.run_bind, Sem.run_pure, Result.andThen_ok, List.map_toArray, List.map_cons, List.map_nil, hd, hs, hrun]
    exact h2
end
theorem take32 (st : Option (List Int)) : (takeO st 32).1.length = 0 ∨ (takeO st 32).1.length = 32 := by
  unfold takeO
  split
  · split
    · right; rw [List.length_take]; omega
    · exact Or.inl rfl
  · exact Or.inl rfl
set_option maxHeartbeats 4000000 in
set_option maxRecDepth 100000 in
theorem sum_c (w0 w : World) (g : Nat) (st : Option (List Int)) (h : RdO w0 w g st) (hB : Below w0.heap.size w0 w) :
    Calls Try.prog 62 #[.pointer (some ⟨g, 0, none⟩)] w fun e w' => e = .returned (sumV (sumO st).1) ∧ Tlv.Left w0 w w' g (sumO st).2 := by
  have h32 := take32 st
  obtain ⟨D, hD⟩ := sumC (sumO st).1 (sumO_len st)
  rw [hD.v]
  have HD := Aside0.mk hD
  have HG := Aside0.mk (And.intro h.blk.2.1 hB.size)
  have hs1 : (sumO st).1 = if (takeO st 32).1.length = 32 then (takeO st 32).1 else Z := rfl
  have hs2 : (sumO st).2 = (takeO st 32).2 := rfl
  have HW : Below w.heap.size w ((w.alloc (.cells Z32 23)).alloc (.cells Z32 23)) := below_alloc (below_alloc (Below.refl _ _) _) _
  have HL0 := Aside0.mk (show Tlv.Left w0 w ((w.alloc (.cells Z32 23)).alloc (.cells Z32 23)) g st from left_below (Tlv.Left.refl h hB) HW)
  have HY2 := Aside0.mk (show ((w.alloc (.cells Z32 23)).alloc (.cells Z32 23)).heap[w.heap.size]? = some (.cells Z32 23 (0, 0)) from blk_alloc (blk_new _ _) _)
  have HY3 := Aside0.mk (show ((w.alloc (.cells Z32 23)).alloc (.cells Z32 23)).heap[w.heap.size + 1]? = some (.cells Z32 23 (0, 0)) from second_new' _ _ _)
  have HTK := Aside0.mk (fun V (hV : Tlv.Left w0 w V g st) => takeO_ w0 V g st 32 hV.1 hV.2.1)
  obtain ⟨X, hX⟩ : ∃ X, (takeO st 32).1 = X := ⟨_, rfl⟩
  obtain ⟨s1, hs⟩ : ∃ X, (takeO st 32).2 = X := ⟨_, rfl⟩
  rw [hX] at h32 hs1 HTK
  rw [hs] at hs2 HTK
  rw [hs2]
  rw [hs1] at HD
  have H32 := Aside0.mk h32
  clear h32 hD h hB hs1 hs2 hX hs HW
  go_enter Try.func62, Try.ntmps62
  go_upto_region 2 with (fail)
  obtain ⟨W2, hW2⟩ : ∃ V, (w.alloc (.cells Z32 23)).alloc (.cells Z32 23) = V := ⟨_, rfl⟩
  rw [hW2] at HL0 HY2 HY3
  rw [show (w.alloc (.cells #[.int .u8 0, .int .u8 0, .int .u8 0, .int .u8 0, .int .u8 0, .int .u8 0, .int .u8 0, .int .u8 0, .int .u8 0, .int .u8 0, .int .u8 0, .int .u8 0, .int .u8 0, .int .u8 0, .int .u8 0, .int .u8 0, .int .u8 0, .int .u8 0, .int .u8 0, .int .u8 0, .int .u8 0, .int .u8 0, .int .u8 0, .int .u8 0, .int .u8 0, .int .u8 0, .int .u8 0, .int .u8 0, .int .u8 0, .int .u8 0, .int .u8 0, .int .u8 0] 23)).alloc (.cells #[.int .u8 0, .int .u8 0, .int .u8 0, .int .u8 0, .int .u8 0, .int .u8 0, .int .u8 0, .int .u8 0, .int .u8 0, .int .u8 0, .int .u8 0, .int .u8 0, .int .u8 0, .int .u8 0, .int .u8 0, .int .u8 0, .int .u8 0, .int .u8 0, .int .u8 0, .int .u8 0, .int .u8 0, .int .u8 0, .int .u8 0, .int .u8 0, .int .u8 0, .int .u8 0, .int .u8 0, .int .u8 0, .int .u8 0, .int .u8 0, .int .u8 0, .int .u8 0] 23) = W2 from hW2]
  clear hW2
  refine wp_region_held_drew (S := fun _ => True) (by kernel_rfl) trivial (fun hHeld => ?_)
  (refine wpAnyH_take (i := 0) (v := ?_) rfl (by kernel_rfl) (by kernel_rfl) (by kernel_rfl) (fun _ _ _ h => h) (Or.inl ⟨by rfl, ?_⟩) (by assumption) ?_; (case' refine_2 => (intro w hSw; go_simp; try with_reducible rfl)); (try simp only [Act.put, List.getElem_toArray, List.getElem_cons_zero, List.getElem_cons_succ, List.setIfInBounds_toArray, List.set_cons_zero, List.set_cons_succ]))
  (refine wpAnyH_take (i := 1) (v := ?_) rfl (by kernel_rfl) (by kernel_rfl) (by kernel_rfl) (fun _ _ _ h => h) (Or.inl ⟨by rfl, ?_⟩) (by assumption) ?_; (case' refine_2 => (intro w hSw; go_simp; try with_reducible rfl)); (try simp only [Act.put, List.getElem_toArray, List.getElem_cons_zero, List.getElem_cons_succ, List.setIfInBounds_toArray, List.set_cons_zero, List.set_cons_succ]))
  (refine wpAnyH_ready (rs := [2]) (by kernel_rfl) (by simp) (AllReadyH.cons rfl (fun K hK => ?_) AllReadyH.nil); go_simp)
  refine (HTK.out _ (left_below HL0.out (below_drew1 (Below.refl _ _)))).mono ?_
  rintro e w3 ⟨v, rfl, ho, hl⟩
  obtain ⟨A3, c3, rfl, hc3, hr3⟩ := Kd.R_reads ho
  have HR3 := Aside0.mk (show Rb w3 A3 X from hr3)
  have HL3 := Aside0.mk ((left_below HL0.out (below_drew1 (Below.refl _ _))).trans hl)
  have HZ2 := Aside0.mk (hl.2.2.blk (show W2.drew.heap[w.heap.size]? = some (.cells Z32 23 (0, 0)) from HY2.out) (by have := HG.out.1; omega) (by simp))
  have HZ3 := Aside0.mk (hl.2.2.blk (show W2.drew.heap[w.heap.size + 1]? = some (.cells Z32 23 (0, 0)) from HY3.out) (by have := HG.out.1; omega) (by simp))
  clear ho hl hc3 hr3
  (refine Shut.out hK _ _ trivial (fun hHeld => ?_); clear hK K; (try simp only [Act.put, List.getElem_toArray, List.getElem_cons_zero, List.getElem_cons_succ, List.setIfInBounds_toArray, List.set_cons_zero, List.set_cons_succ]))
  refine wpAnyH_ready (rs := [3]) (by kernel_rfl) (by simp) (AllReadyH.cons rfl (fun K hK => ?_) AllReadyH.nil)
  refine wp_copy_sum (.tmp 4) (.tmp 6) rfl (w.heap.size + 1) c3 A3 X rfl rfl HZ3.out H32.out HR3.out ?_
  intro w4 n4 hg hb4
  have HL4 := Aside0.mk (left_grown HL3.out (show Below w.heap.size w3 w4 from ⟨hg.os, hg.tape, hg.output, hg.size, fun k hk => hg.block k (Nat.lt_of_lt_of_le hk HL3.out.2.2.1) (fun e => by injection e with e; omega)⟩) hg (fun b e => by injection e with e; subst e; have := HG.out; exact ⟨by omega, by omega⟩) HG.out.2)
  have HZ4 := Aside0.mk ((hg.block w.heap.size (by have := HL3.out.2.2.1; have := blk_lt HZ2.out; omega) (fun e => by injection e with e; omega)).trans HZ2.out)
  have HA4 := Aside0.mk (show AtC w4 ⟨w.heap.size + 1, 0, none⟩ D from by rw [← HD.out.eq]; exact atC_blk hb4)
  have HI := Aside0.mk HD.out.blk
  clear hg hb4
  (refine Shut.out hK _ _ trivial (fun hHeld => ?_); clear hK K; (try simp only [Act.put, List.getElem_toArray, List.getElem_cons_zero, List.getElem_cons_succ, List.setIfInBounds_toArray, List.set_cons_zero, List.set_cons_succ]))
  refine wpAnyH_done (by kernel_rfl) ?_ _
  go_wp2_with (first
    | ((with_reducible refine gate_dst (N := 8) rfl ?_); refine wpList_load_at rfl 23 (.tmp 3) rfl ⟨w.heap.size + 1, 0, none⟩ rfl D _ HA4.out Try.underlying23 rfl HI.out ?_)
    | ((with_reducible refine gate_store (t := 23) (p := 2) (v := .tmp 8) rfl ?_); refine wpList_store_row rfl 23 (.tmp 2) (.tmp 8) rfl w.heap.size D.toArray rfl rfl 23 Z32 HZ4.out HD.out.blkA HD.out.zsA HD.out.oneA ?_))
  have HSR := setRow_heap w4 w.heap.size Z32 D.toArray _ _ HZ4.out
  refine bodyPost_ret (v := .agg D.toArray) (results_cell_row rfl _ _ w.heap.size 23 D.toArray (0, 0) _ rfl HSR Try.underlying23 rfl HD.out.blkA) rfl ⟨rfl, ?_⟩
  exact left_grown HL4.out (below_setRow (Below.refl _ _) (Nat.le_refl _) _) (grown_setRow _ _ _) (fun b e => by injection e with e; subst e; exact HG.out) HG.out.2
end Go.Proofs.Ytfpkgdenohcglaa.Chn
/- The document's Same. -/
namespace Go.Proofs.Ytfpkgdenohcglaa.Chn
set_option linter.unusedVariables false
set_option linter.unusedSimpArgs false
open Go.RowKit Go.Proofs.Ytfpkgdenohcglaa.Base Go.Proofs.Ytfpkgdenohcglaa.TlvPlain Go.Proofs.Ytfpkgdenohcglaa.ShaPlain Go.Proofs.Ytfpkgdenohcglaa.Sha Go.Proofs.Ytfpkgdenohcglaa.Com Go.Proofs.Ytfpkgdenohcglaa.Aid Go.Proofs.YtfpkgdenohcglaaW.PrintWords Go.Proofs.YtfpkgdenohcglaaW.PrintLast Go.Proofs.YtfpkgdenohcglaaW.PrintMore
theorem wp_alloc_e {o : Oper} {a : Act} {Q : Exit → Act → World → Prop} {K : Act → World → Prop} {w : World} (ho : o.op = .alloc 27)
    (h : K (a.put o.dst (.pointer (some ⟨w.heap.size, 0, none⟩))) (w.alloc (.cells zE.toArray 27))) : Oper.wp Try.prog o a w K Q := by
  obtain ⟨i, hi, hz, hs, hb⟩ := info_parts info_ent3
  rw [zE_z] at h
  have hrun : (Instr.alloc 27 true (.tuple #[])).run Try.prog w = .ok (.pointer (some ⟨w.heap.size, 0, none⟩)) (w.alloc (.cells Try.zeroCells27 27)) := by
    simp [Instr.alloc, zeroValue, typeInfo, hi, hz, newVar, newRow, Value.cells]
  unfold Oper.wp execOp
  simp only [ho, Sem.run_bind, hrun, Result.andThen_ok]
  exact h
theorem ent_ext {x y : Ent} (h0 : seqE x = seqE y) (h1 : prevE x = prevE y) (h2 : comE x = comE y) (h3 : saltE x = saltE y) (h4 : redE x = redE y) (h5 : payE x = payE y) : x = y :=
  Prod.ext h0 (Prod.ext h1 (Prod.ext h2 (Prod.ext h3 (Prod.ext h5 h4))))
set_option maxHeartbeats 4000000 in
set_option maxRecDepth 100000 in
theorem esame_c (a b : List Ent) (A0 A1 : Option Addr) (c0 c1 : Nat) (w : World) (h0 : Re w A0 a) (h1 : Re w A1 b) (hl : a.length ≤ 1000000) (hl2 : b.length ≤ 1000000) (hs : ∀ x ∈ a, (payE x).length ≤ 1000000) (ha : Lu' a) (hb : Lu' b) :
    Calls Try.prog 20 #[.slice A0 a.length c0, .slice A1 b.length c1] w (RetB w (decide (a = b))) := by
  unfold RetB
  have H0 := Aside0.mk h0
  have H1 := Aside0.mk h1
  have HS := Aside0.mk (And.intro hs (And.intro ha hb))
  have HB := Aside0.mk (Below.refl w.heap.size w)
  by_cases hn : a.length = b.length
  · obtain ⟨m, hm⟩ : ∃ m, a.length = m := ⟨_, rfl⟩
    have hm2 : b.length = m := by omega
    rw [hm, hm2]
    have HM := Aside0.mk hm
    have HM2 := Aside0.mk hm2
    rw [hm] at hl
    have q0 : (m : Int) ≤ 1000000 := by omega
    have q1 : ((m : Int) != (m : Int)) = false := by simp
    clear h0 h1 hn hm hm2 hl2 hl hs ha hb
    go_enter Try.func20, Try.ntmps20
    go_wp2_with (fail)
    go_loopw [5, 6, 7] (fun i _ _ wr => ∃ k : Nat, k ≤ m ∧ i = .int .i64 k ∧ Aside0 (a.take k = b.take k) ∧ Below w.heap.size w wr) (fun i _ _ _ => m - (intOf i).toNat)
    case atStart => exact ⟨0, Nat.zero_le _, rfl, ⟨rfl⟩, HB.out⟩
    case round =>
      clear HB
      obtain ⟨k, hk, rfl, HTK, hb⟩ := hrel
      have HB := Aside0.mk hb
      clear hb
      obtain ⟨W, hwy⟩ : ∃ wy, wy = wr := ⟨_, rfl⟩
      subst hwy
      by_cases hlt : k < m
      · have hka : k < a.length := by have := HM.out; omega
        have hkb : k < b.length := by have := HM2.out; omega
        obtain ⟨ad0, P, C, B, cb, rfl, hat, hC⟩ := re_at H0.out k hka
        obtain ⟨ad1, P', C', B', cb', rfl, hat', hC'⟩ := re_at H1.out k hkb
        have hEx := HS.out.2.1 _ (List.getElem_mem hka)
        have hEy := HS.out.2.2 _ (List.getElem_mem hkb)
        have hpl := HS.out.1 _ (List.getElem_mem hka)
        have HX := Aside0.mk (take_snoc a k hka)
        have HY := Aside0.mk (take_snoc b k hkb)
        have hgx : a[k]? = some a[k] := List.getElem?_eq_getElem hka
        have hgy : b[k]? = some b[k] := List.getElem?_eq_getElem hkb
        obtain ⟨x, hxx⟩ : ∃ x, a[k] = x := ⟨_, rfl⟩
        obtain ⟨y, hyy⟩ : ∃ y, b[k] = y := ⟨_, rfl⟩
        rw [hxx] at hat hC hEx hpl HX hgx
        rw [hyy] at hat' hC' hEy HY hgy
        have HNE := Aside0.mk (fun (h : x ≠ y) => show a ≠ b from fun e => h (Option.some.inj (hgx.symm.trans ((congrArg (fun l => l[k]?) e).trans hgy))))
        have HSM := Aside0.mk (fun V (hV : Below w.heap.size w V) => Lo.same_c B cb (payE x) B' cb' (payE y) V (Kd.C_below hC.r hV) hC.hc (Kd.C_below hC'.r hV) hC'.hc (by omega))
        have HP := Aside0.mk (run_eq_sum (prevE x) (prevE y) hEx.pl hEy.pl)
        have HC := Aside0.mk (run_eq_sum (comE x) (comE y) hEx.cl hEy.cl)
        rw [hC.fp.v, hC'.fp.v] at HP
        rw [hC.fc.v, hC'.fc.v] at HC
        have HI := Aside0.mk (And.intro hC.fp.blk (And.intro hC.fc.blk (And.intro hC'.fp.blk hC'.fc.blk)))
        obtain ⟨bp, hbp⟩ : ∃ v, decide (prevE x = prevE y) = v := ⟨_, rfl⟩
        obtain ⟨bc, hbc⟩ : ∃ v, decide (comE x = comE y) = v := ⟨_, rfl⟩
        obtain ⟨by_, hby⟩ : ∃ v, decide (payE x = payE y) = v := ⟨_, rfl⟩
        rw [hbp] at HP
        rw [hbc] at HC
        rw [hby] at HSM
        have HBP := Aside0.mk hbp
        have HBC := Aside0.mk hbc
        have HBY := Aside0.mk hby
        have HMK := Aside0.mk (fun (V : World) (g6 g7 : Nat) (h6 : V.heap[g6]? = some (.cells (cE x P C B cb).toArray 27 (0, 0))) (h7 : V.heap[g7]? = some (.cells (cE y P' C' B' cb').toArray 27 (0, 0))) =>
          And.intro (entAt_blk hC.fp.lenC hC.fc.lenC h6) (entAt_blk hC'.fp.lenC hC'.fc.lenC h7))
        have HIX := Aside0.mk (show (Try.prog.info? 27).map (·.size) = some (cE x P C B cb).toArray.size from by rw [List.size_toArray]; exact hC.info)
        have HIY := Aside0.mk (show (Try.prog.info? 27).map (·.size) = some (cE y P' C' B' cb').toArray.size from by rw [List.size_toArray]; exact hC'.info)
        have HIXL := Aside0.mk hC.info
        have HIYL := Aside0.mk hC'.info
        have HOX := Aside0.mk hC.one
        have HOY := Aside0.mk hC'.one
        have HXL := Aside0.mk hC.len
        have HYL := Aside0.mk hC'.len
        have HALL := Aside0.mk (fun V (hV : Below W.heap.size W V) => show AtC V (ad0.add (k * 68)) (cE x P C B cb) ∧ AtC V (ad1.add (k * 68)) (cE y P' C' B' cb') from And.intro ((hat.below HB.out).below hV) ((hat'.below HB.out).below hV))
        obtain ⟨X, hX⟩ : ∃ X, cE x P C B cb = X := ⟨_, rfl⟩
        obtain ⟨Y, hY⟩ : ∃ Y, cE y P' C' B' cb' = Y := ⟨_, rfl⟩
        rw [hX] at HMK HIX HIXL HOX HXL HALL
        rw [hY] at HMK HIY HIYL HOY HYL HALL
        have hk0 : (0 : Int) ≤ (k : Int) := by omega
        have hk1 : (k : Int) < (m : Int) := by omega
        have hguard := guard_32
        have hu24 := Try.underlying23
        have hu27 := Try.underlying27
        have HK := Aside0.mk hlt
        clear hat hat' hC hC' hEx hEy hpl hgx hgy hxx hyy hbp hbc hby hX hY hlt hk hka hkb
        go_wp2_with (fail)
        refine wp_region_held_drew (S := fun w' => AtC w' (ad0.add (k * 68)) X ∧ AtC w' (ad1.add (k * 68)) Y) (by kernel_rfl) (HALL.out _ (below_drew1 (Below.refl _ _))) (fun hHeld => ?_)
        (refine wpAnyH_take (i := 0) (v := ?_) rfl (by kernel_rfl) (by kernel_rfl) (by kernel_rfl) (fun _ _ _ h => h) (Or.inl ⟨by rfl, ?_⟩) (by assumption) ?_; (case' refine_2 => (intro w hSw; go_simp; try with_reducible rfl)); (try simp only [Act.put, List.getElem_toArray, List.getElem_cons_zero, List.getElem_cons_succ, List.setIfInBounds_toArray, List.set_cons_zero, List.set_cons_succ]))
        (refine wpAnyH_take (i := 1) (v := ?_) rfl (by kernel_rfl) (by kernel_rfl) (by kernel_rfl) (fun _ _ _ h => h) (Or.inl ⟨by rfl, ?_⟩) (by assumption) ?_; (case' refine_2 => (intro w hSw; go_simp; try with_reducible rfl)); (try simp only [Act.put, List.getElem_toArray, List.getElem_cons_zero, List.getElem_cons_succ, List.setIfInBounds_toArray, List.set_cons_zero, List.set_cons_succ]))
        (refine wpAnyH_take (i := 2) (v := ?_) rfl (by kernel_rfl) (by kernel_rfl) (by kernel_rfl) (fun _ _ _ h => h) (Or.inl ⟨by rfl, ?_⟩) (by assumption) ?_; (case' refine_2 => (intro w hSw; go_simp; try with_reducible rfl)); (try simp only [Act.put, List.getElem_toArray, List.getElem_cons_zero, List.getElem_cons_succ, List.setIfInBounds_toArray, List.set_cons_zero, List.set_cons_succ]))
        (refine wpAnyH_take (i := 3) rfl (by kernel_rfl) (by kernel_rfl) (by kernel_rfl) (fun _ _ _ h => h) (yieldsIf_load_at (by rfl) _ _ rfl (ad0.add (k * 68)) rfl X _ (fun _ h => h.1) (by assumption) rfl HIXL.out) (by assumption) ?_; (try simp only [Act.put, List.getElem_toArray, List.getElem_cons_zero, List.getElem_cons_succ, List.setIfInBounds_toArray, List.set_cons_zero, List.set_cons_succ]))
        (refine wpAnyH_take (i := 4) (v := ?_) rfl (by kernel_rfl) (by kernel_rfl) (by kernel_rfl) (fun _ _ _ h => h) (Or.inl ⟨by rfl, ?_⟩) (by assumption) ?_; (case' refine_2 => (intro w hSw; go_simp; try with_reducible rfl)); (try simp only [Act.put, List.getElem_toArray, List.getElem_cons_zero, List.getElem_cons_succ, List.setIfInBounds_toArray, List.set_cons_zero, List.set_cons_succ]))
        (refine wpAnyH_take (i := 5) (v := ?_) rfl (by kernel_rfl) (by kernel_rfl) (by kernel_rfl) (fun _ _ _ h => h) (Or.inl ⟨by rfl, ?_⟩) (by assumption) ?_; (case' refine_2 => (intro w hSw; go_simp; try with_reducible rfl)); (try simp only [Act.put, List.getElem_toArray, List.getElem_cons_zero, List.getElem_cons_succ, List.setIfInBounds_toArray, List.set_cons_zero, List.set_cons_succ]))
        (refine wpAnyH_take (i := 6) (v := ?_) rfl (by kernel_rfl) (by kernel_rfl) (by kernel_rfl) (fun _ _ _ h => h) (Or.inl ⟨by rfl, ?_⟩) (by assumption) ?_; (case' refine_2 => (intro w hSw; go_simp; try with_reducible rfl)); (try simp only [Act.put, List.getElem_toArray, List.getElem_cons_zero, List.getElem_cons_succ, List.setIfInBounds_toArray, List.set_cons_zero, List.set_cons_succ]))
        (refine wpAnyH_take (i := 7) rfl (by kernel_rfl) (by kernel_rfl) (by kernel_rfl) (fun _ _ _ h => h) (yieldsIf_load_at (by rfl) _ _ rfl (ad1.add (k * 68)) rfl Y _ (fun _ h => h.2) (by assumption) rfl HIYL.out) (by assumption) ?_; (try simp only [Act.put, List.getElem_toArray, List.getElem_cons_zero, List.getElem_cons_succ, List.setIfInBounds_toArray, List.set_cons_zero, List.set_cons_succ]))
        refine wpAnyH_ready (rs := [8, 9]) (by kernel_rfl) (by simp) (AllReadyH.cons rfl (fun K hK => ?_) (AllReadyH.cons rfl (fun K hK => ?_) AllReadyH.nil))
        · rw [if_pos (by rfl)]
          refine wp_alloc_e rfl ?_
          have HBa := Aside0.mk (below_alloc (below_drew1 (Below.refl W.heap.size W)) (.cells zE.toArray 27))
          (refine Shut.out hK _ _ (HALL.out _ HBa.out) (fun hHeld => ?_); clear hK K; (try simp only [Act.put, List.getElem_toArray, List.getElem_cons_zero, List.getElem_cons_succ, List.setIfInBounds_toArray, List.set_cons_zero, List.set_cons_succ]))
          refine wpAnyH_ready (rs := [9]) (by kernel_rfl) (by simp) (AllReadyH.cons rfl (fun K hK => ?_) AllReadyH.nil)
          rw [if_pos (by rfl)]
          refine wp_alloc_e rfl ?_
          have HBb := Aside0.mk (below_alloc HBa.out (.cells zE.toArray 27))
          have HYa := Aside0.mk (show (((W.drew.alloc (.cells zE.toArray 27)).alloc (.cells zE.toArray 27))).heap[W.drew.heap.size]? = some (.cells zE.toArray 27 (0, 0)) from blk_alloc (blk_new _ _) _)
          have HYb := Aside0.mk (show (((W.drew.alloc (.cells zE.toArray 27)).alloc (.cells zE.toArray 27))).heap[(W.drew.alloc (.cells zE.toArray 27)).heap.size]? = some (.cells zE.toArray 27 (0, 0)) from blk_new _ _)
          have HNab := Aside0.mk (show W.drew.heap.size ≠ (W.drew.alloc (.cells zE.toArray 27)).heap.size from by simp [World.alloc])
          have HGa := Aside0.mk (show W.heap.size ≤ W.drew.heap.size from Nat.le_refl _)
          have HGb := Aside0.mk (show W.heap.size ≤ (W.drew.alloc (.cells zE.toArray 27)).heap.size from by simp [World.alloc])
          obtain ⟨w2, hw2⟩ : ∃ V, ((W.drew.alloc (.cells zE.toArray 27)).alloc (.cells zE.toArray 27)) = V := ⟨_, rfl⟩
          obtain ⟨g6, hg6⟩ : ∃ g, W.drew.heap.size = g := ⟨_, rfl⟩
          obtain ⟨g7, hg7⟩ : ∃ g, (W.drew.alloc (.cells zE.toArray 27)).heap.size = g := ⟨_, rfl⟩
          rw [hw2] at HBb HYa HYb ⊢
          rw [hg6] at HYa HNab HGa ⊢
          rw [hg7] at HYb HNab HGb ⊢
          have HN67 := Aside0.mk (show g7 ≠ g6 from HNab.out.symm)
          clear hw2 hg6 hg7 HNab
          (refine Shut.out hK _ _ (HALL.out _ HBb.out) (fun hHeld => ?_); clear hK K; (try simp only [Act.put, List.getElem_toArray, List.getElem_cons_zero, List.getElem_cons_succ, List.setIfInBounds_toArray, List.set_cons_zero, List.set_cons_succ]))
          refine wpAnyH_ready (rs := [10]) (by kernel_rfl) (by simp) (AllReadyH.cons rfl (fun K hK => ?_) AllReadyH.nil)
          rw [if_pos (by rfl)]
          refine wp_store_row 27 (.tmp 6) (.tmp 22) rfl g6 X.toArray rfl rfl 27 zE.toArray HYa.out HIX.out (by rw [List.size_toArray, List.size_toArray, zE_len, HXL.out]) HOX.out ?_
          have HBc := Aside0.mk (below_setRow HBb.out HGa.out X.toArray)
          have HYc := Aside0.mk ((setRow_other w2 g6 g7 X.toArray HN67.out).trans HYb.out)
          have HXc := Aside0.mk (setRow_heap w2 g6 zE.toArray X.toArray _ _ HYa.out)
          obtain ⟨w3, hw3⟩ : ∃ V, w2.setRow g6 X.toArray = V := ⟨_, rfl⟩
          rw [hw3] at HBc HYc HXc ⊢
          clear hw3
          (refine Shut.out hK _ _ (HALL.out _ HBc.out) (fun hHeld => ?_); clear hK K; (try simp only [Act.put, List.getElem_toArray, List.getElem_cons_zero, List.getElem_cons_succ, List.setIfInBounds_toArray, List.set_cons_zero, List.set_cons_succ]))
          refine wpAnyH_ready (rs := [11]) (by kernel_rfl) (by simp) (AllReadyH.cons rfl (fun K hK => ?_) AllReadyH.nil)
          rw [if_pos (by rfl)]
          refine wp_store_row 27 (.tmp 7) (.tmp 26) rfl g7 Y.toArray rfl rfl 27 zE.toArray HYc.out HIY.out (by rw [List.size_toArray, List.size_toArray, zE_len, HYL.out]) HOY.out ?_
          have HBd := Aside0.mk (below_setRow HBc.out HGb.out Y.toArray)
          have HXd := Aside0.mk ((setRow_other w3 g7 g6 Y.toArray HN67.out.symm).trans HXc.out)
          have HYd := Aside0.mk (setRow_heap w3 g7 zE.toArray Y.toArray _ _ HYc.out)
          obtain ⟨w4, hw4⟩ : ∃ V, w3.setRow g7 Y.toArray = V := ⟨_, rfl⟩
          rw [hw4] at HBd HYd HXd ⊢
          clear hw4
          (refine Shut.out hK _ _ (HALL.out _ HBd.out) (fun hHeld => ?_); clear hK K; (try simp only [Act.put, List.getElem_toArray, List.getElem_cons_zero, List.getElem_cons_succ, List.setIfInBounds_toArray, List.set_cons_zero, List.set_cons_succ]))
          refine wpAnyH_done (by kernel_rfl) ?_ _
          have HE := Aside0.mk (HMK.out w4 g6 g7 HXd.out HYd.out)
          have HB4 := Aside0.mk (below_step HB.out HBd.out)
          have hs1 := HE.out.1.s
          have hs2 := HE.out.1.sl
          have hs3 := HE.out.1.py
          have hs4 := HE.out.1.r
          have ht1 := HE.out.2.s
          have ht2 := HE.out.2.sl
          have ht3 := HE.out.2.py
          have ht4 := HE.out.2.r
          obtain ⟨s1, es1⟩ : ∃ v, seqE x = v := ⟨_, rfl⟩
          obtain ⟨t1, et1⟩ : ∃ v, seqE y = v := ⟨_, rfl⟩
          obtain ⟨s2, es2⟩ : ∃ v, saltE x = v := ⟨_, rfl⟩
          obtain ⟨t2, et2⟩ : ∃ v, saltE y = v := ⟨_, rfl⟩
          obtain ⟨s4, es4⟩ : ∃ v, redE x = v := ⟨_, rfl⟩
          obtain ⟨t4, et4⟩ : ∃ v, redE y = v := ⟨_, rfl⟩
          rw [es1] at hs1
          rw [et1] at ht1
          rw [es2] at hs2
          rw [et2] at ht2
          rw [es4] at hs4
          rw [et4] at ht4
          have ES1 := Aside0.mk es1
          have ET1 := Aside0.mk et1
          have ES2 := Aside0.mk es2
          have ET2 := Aside0.mk et2
          have ES4 := Aside0.mk es4
          have ET4 := Aside0.mk et4
          clear es1 et1 es2 et2 es4 et4
          by_cases c1 : s1 = t1
          · have C1 := Aside0.mk c1
            have r1 : (s1 != t1) = false := by simp [c1]
            clear c1
            have hp := HP.out
            have hq := HC.out
            cases bp with
            | false =>
              clear hq
              go_wp2_with (first
                | ((with_reducible refine gate_dst (N := 34) rfl ?_); (try (refine gate_guard (by rfl) ?_; dsimp only)); refine wpList_load_at rfl 23 (.tmp 33) rfl _ rfl P _ HE.out.1.fp Try.underlying23 rfl HI.out.1 ?_)
                | ((with_reducible refine gate_dst (N := 36) rfl ?_); (try (refine gate_guard (by rfl) ?_; dsimp only)); refine wpList_load_at rfl 23 (.tmp 35) rfl _ rfl P' _ HE.out.2.fp Try.underlying23 rfl HI.out.2.2.1 ?_)
                | ((with_reducible refine gate_dst (N := 41) rfl ?_); (try (refine gate_guard (by rfl) ?_; dsimp only)); refine wpList_load_at rfl 23 (.tmp 40) rfl _ rfl C _ HE.out.1.fc Try.underlying23 rfl HI.out.2.1 ?_)
                | ((with_reducible refine gate_dst (N := 43) rfl ?_); (try (refine gate_guard (by rfl) ?_; dsimp only)); refine wpList_load_at rfl 23 (.tmp 42) rfl _ rfl C' _ HE.out.2.fc Try.underlying23 rfl HI.out.2.2.2 ?_)
                | (go_at_call 23; refine (HSM.out _ HB4.out).mono ?_; rintro e w9 ⟨rfl, hd⟩; have HB9 := Aside0.mk (below_step HB4.out (Drawn0.below hd)); clear hd))
              go_ret
              exact ⟨congrArg (fun b => Ending.returned (Value.bool b)) (decide_eq_false (HNE.out (fun e => of_decide_eq_false HBP.out (congrArg prevE e)))).symm, HB4.out⟩
            | true =>
              cases bc with
              | false =>
                go_wp2_with (first
                  | ((with_reducible refine gate_dst (N := 34) rfl ?_); (try (refine gate_guard (by rfl) ?_; dsimp only)); refine wpList_load_at rfl 23 (.tmp 33) rfl _ rfl P _ HE.out.1.fp Try.underlying23 rfl HI.out.1 ?_)
                  | ((with_reducible refine gate_dst (N := 36) rfl ?_); (try (refine gate_guard (by rfl) ?_; dsimp only)); refine wpList_load_at rfl 23 (.tmp 35) rfl _ rfl P' _ HE.out.2.fp Try.underlying23 rfl HI.out.2.2.1 ?_)
                  | ((with_reducible refine gate_dst (N := 41) rfl ?_); (try (refine gate_guard (by rfl) ?_; dsimp only)); refine wpList_load_at rfl 23 (.tmp 40) rfl _ rfl C _ HE.out.1.fc Try.underlying23 rfl HI.out.2.1 ?_)
                  | ((with_reducible refine gate_dst (N := 43) rfl ?_); (try (refine gate_guard (by rfl) ?_; dsimp only)); refine wpList_load_at rfl 23 (.tmp 42) rfl _ rfl C' _ HE.out.2.fc Try.underlying23 rfl HI.out.2.2.2 ?_)
                  | (go_at_call 23; refine (HSM.out _ HB4.out).mono ?_; rintro e w9 ⟨rfl, hd⟩; have HB9 := Aside0.mk (below_step HB4.out (Drawn0.below hd)); clear hd))
                go_ret
                exact ⟨congrArg (fun b => Ending.returned (Value.bool b)) (decide_eq_false (HNE.out (fun e => of_decide_eq_false HBC.out (congrArg comE e)))).symm, HB4.out⟩
              | true =>
                by_cases c2 : s2 = t2
                · have C2 := Aside0.mk c2
                  have r2 : (s2 != t2) = false := by simp [c2]
                  clear c2
                  by_cases c4 : s4 = t4
                  · have C4 := Aside0.mk c4
                    subst c4
                    cases s4
                    · cases by_ with
                      | false =>
                        go_wp2_with (first
                          | ((with_reducible refine gate_dst (N := 34) rfl ?_); (try (refine gate_guard (by rfl) ?_; dsimp only)); refine wpList_load_at rfl 23 (.tmp 33) rfl _ rfl P _ HE.out.1.fp Try.underlying23 rfl HI.out.1 ?_)
                          | ((with_reducible refine gate_dst (N := 36) rfl ?_); (try (refine gate_guard (by rfl) ?_; dsimp only)); refine wpList_load_at rfl 23 (.tmp 35) rfl _ rfl P' _ HE.out.2.fp Try.underlying23 rfl HI.out.2.2.1 ?_)
                          | ((with_reducible refine gate_dst (N := 41) rfl ?_); (try (refine gate_guard (by rfl) ?_; dsimp only)); refine wpList_load_at rfl 23 (.tmp 40) rfl _ rfl C _ HE.out.1.fc Try.underlying23 rfl HI.out.2.1 ?_)
                          | ((with_reducible refine gate_dst (N := 43) rfl ?_); (try (refine gate_guard (by rfl) ?_; dsimp only)); refine wpList_load_at rfl 23 (.tmp 42) rfl _ rfl C' _ HE.out.2.fc Try.underlying23 rfl HI.out.2.2.2 ?_)
                          | (go_at_call 23; refine (HSM.out _ HB4.out).mono ?_; rintro e w9 ⟨rfl, hd⟩; have HB9 := Aside0.mk (below_step HB4.out (Drawn0.below hd)); clear hd))
                        go_ret
                        exact ⟨congrArg (fun b => Ending.returned (Value.bool b)) (decide_eq_false (HNE.out (fun e => of_decide_eq_false HBY.out (congrArg payE e)))).symm, HB9.out⟩
                      | true =>
                        have HEQ := Aside0.mk (show a.take (k + 1) = b.take (k + 1) from by
                          rw [HX.out, HY.out, HTK.out, ent_ext (x := x) (y := y) (by rw [ES1.out, ET1.out]; exact C1.out) (of_decide_eq_true HBP.out) (of_decide_eq_true HBC.out) (by rw [ES2.out, ET2.out]; exact C2.out) (by rw [ES4.out, ET4.out]) (of_decide_eq_true HBY.out)])
                        go_wp2_with (first
                          | ((with_reducible refine gate_dst (N := 34) rfl ?_); (try (refine gate_guard (by rfl) ?_; dsimp only)); refine wpList_load_at rfl 23 (.tmp 33) rfl _ rfl P _ HE.out.1.fp Try.underlying23 rfl HI.out.1 ?_)
                          | ((with_reducible refine gate_dst (N := 36) rfl ?_); (try (refine gate_guard (by rfl) ?_; dsimp only)); refine wpList_load_at rfl 23 (.tmp 35) rfl _ rfl P' _ HE.out.2.fp Try.underlying23 rfl HI.out.2.2.1 ?_)
                          | ((with_reducible refine gate_dst (N := 41) rfl ?_); (try (refine gate_guard (by rfl) ?_; dsimp only)); refine wpList_load_at rfl 23 (.tmp 40) rfl _ rfl C _ HE.out.1.fc Try.underlying23 rfl HI.out.2.1 ?_)
                          | ((with_reducible refine gate_dst (N := 43) rfl ?_); (try (refine gate_guard (by rfl) ?_; dsimp only)); refine wpList_load_at rfl 23 (.tmp 42) rfl _ rfl C' _ HE.out.2.fc Try.underlying23 rfl HI.out.2.2.2 ?_)
                          | (go_at_call 23; refine (HSM.out _ HB4.out).mono ?_; rintro e w9 ⟨rfl, hd⟩; have HB9 := Aside0.mk (below_step HB4.out (Drawn0.below hd)); clear hd))
                        go_roundw
                        case rel => exact ⟨k + 1, by have := HK.out; omega, by go_num, HEQ, HB9.out⟩
                        case measure => have := HK.out; simp [intOf]; omega
                    · cases by_ with
                      | false =>
                        go_wp2_with (first
                          | ((with_reducible refine gate_dst (N := 34) rfl ?_); (try (refine gate_guard (by rfl) ?_; dsimp only)); refine wpList_load_at rfl 23 (.tmp 33) rfl _ rfl P _ HE.out.1.fp Try.underlying23 rfl HI.out.1 ?_)
                          | ((with_reducible refine gate_dst (N := 36) rfl ?_); (try (refine gate_guard (by rfl) ?_; dsimp only)); refine wpList_load_at rfl 23 (.tmp 35) rfl _ rfl P' _ HE.out.2.fp Try.underlying23 rfl HI.out.2.2.1 ?_)
                          | ((with_reducible refine gate_dst (N := 41) rfl ?_); (try (refine gate_guard (by rfl) ?_; dsimp only)); refine wpList_load_at rfl 23 (.tmp 40) rfl _ rfl C _ HE.out.1.fc Try.underlying23 rfl HI.out.2.1 ?_)
                          | ((with_reducible refine gate_dst (N := 43) rfl ?_); (try (refine gate_guard (by rfl) ?_; dsimp only)); refine wpList_load_at rfl 23 (.tmp 42) rfl _ rfl C' _ HE.out.2.fc Try.underlying23 rfl HI.out.2.2.2 ?_)
                          | (go_at_call 23; refine (HSM.out _ HB4.out).mono ?_; rintro e w9 ⟨rfl, hd⟩; have HB9 := Aside0.mk (below_step HB4.out (Drawn0.below hd)); clear hd))
                        go_ret
                        exact ⟨congrArg (fun b => Ending.returned (Value.bool b)) (decide_eq_false (HNE.out (fun e => of_decide_eq_false HBY.out (congrArg payE e)))).symm, HB9.out⟩
                      | true =>
                        have HEQ := Aside0.mk (show a.take (k + 1) = b.take (k + 1) from by
                          rw [HX.out, HY.out, HTK.out, ent_ext (x := x) (y := y) (by rw [ES1.out, ET1.out]; exact C1.out) (of_decide_eq_true HBP.out) (of_decide_eq_true HBC.out) (by rw [ES2.out, ET2.out]; exact C2.out) (by rw [ES4.out, ET4.out]) (of_decide_eq_true HBY.out)])
                        go_wp2_with (first
                          | ((with_reducible refine gate_dst (N := 34) rfl ?_); (try (refine gate_guard (by rfl) ?_; dsimp only)); refine wpList_load_at rfl 23 (.tmp 33) rfl _ rfl P _ HE.out.1.fp Try.underlying23 rfl HI.out.1 ?_)
                          | ((with_reducible refine gate_dst (N := 36) rfl ?_); (try (refine gate_guard (by rfl) ?_; dsimp only)); refine wpList_load_at rfl 23 (.tmp 35) rfl _ rfl P' _ HE.out.2.fp Try.underlying23 rfl HI.out.2.2.1 ?_)
                          | ((with_reducible refine gate_dst (N := 41) rfl ?_); (try (refine gate_guard (by rfl) ?_; dsimp only)); refine wpList_load_at rfl 23 (.tmp 40) rfl _ rfl C _ HE.out.1.fc Try.underlying23 rfl HI.out.2.1 ?_)
                          | ((with_reducible refine gate_dst (N := 43) rfl ?_); (try (refine gate_guard (by rfl) ?_; dsimp only)); refine wpList_load_at rfl 23 (.tmp 42) rfl _ rfl C' _ HE.out.2.fc Try.underlying23 rfl HI.out.2.2.2 ?_)
                          | (go_at_call 23; refine (HSM.out _ HB4.out).mono ?_; rintro e w9 ⟨rfl, hd⟩; have HB9 := Aside0.mk (below_step HB4.out (Drawn0.below hd)); clear hd))
                        go_roundw
                        case rel => exact ⟨k + 1, by have := HK.out; omega, by go_num, HEQ, HB9.out⟩
                        case measure => have := HK.out; simp [intOf]; omega
                  · have C4 := Aside0.mk c4
                    obtain ⟨rfl, rfl⟩ | ⟨rfl, rfl⟩ : (s4 = true ∧ t4 = false) ∨ (s4 = false ∧ t4 = true) := by cases s4 <;> cases t4 <;> simp_all
                    · clear c4
                      go_wp2_with (first
                        | ((with_reducible refine gate_dst (N := 34) rfl ?_); (try (refine gate_guard (by rfl) ?_; dsimp only)); refine wpList_load_at rfl 23 (.tmp 33) rfl _ rfl P _ HE.out.1.fp Try.underlying23 rfl HI.out.1 ?_)
                        | ((with_reducible refine gate_dst (N := 36) rfl ?_); (try (refine gate_guard (by rfl) ?_; dsimp only)); refine wpList_load_at rfl 23 (.tmp 35) rfl _ rfl P' _ HE.out.2.fp Try.underlying23 rfl HI.out.2.2.1 ?_)
                        | ((with_reducible refine gate_dst (N := 41) rfl ?_); (try (refine gate_guard (by rfl) ?_; dsimp only)); refine wpList_load_at rfl 23 (.tmp 40) rfl _ rfl C _ HE.out.1.fc Try.underlying23 rfl HI.out.2.1 ?_)
                        | ((with_reducible refine gate_dst (N := 43) rfl ?_); (try (refine gate_guard (by rfl) ?_; dsimp only)); refine wpList_load_at rfl 23 (.tmp 42) rfl _ rfl C' _ HE.out.2.fc Try.underlying23 rfl HI.out.2.2.2 ?_)
                        | (go_at_call 23; refine (HSM.out _ HB4.out).mono ?_; rintro e w9 ⟨rfl, hd⟩; have HB9 := Aside0.mk (below_step HB4.out (Drawn0.below hd)); clear hd))
                      go_ret
                      exact ⟨congrArg (fun b => Ending.returned (Value.bool b)) (decide_eq_false (HNE.out (fun e => C4.out (by rw [← ES4.out, ← ET4.out, e])))).symm, HB4.out⟩
                    · clear c4
                      go_wp2_with (first
                        | ((with_reducible refine gate_dst (N := 34) rfl ?_); (try (refine gate_guard (by rfl) ?_; dsimp only)); refine wpList_load_at rfl 23 (.tmp 33) rfl _ rfl P _ HE.out.1.fp Try.underlying23 rfl HI.out.1 ?_)
                        | ((with_reducible refine gate_dst (N := 36) rfl ?_); (try (refine gate_guard (by rfl) ?_; dsimp only)); refine wpList_load_at rfl 23 (.tmp 35) rfl _ rfl P' _ HE.out.2.fp Try.underlying23 rfl HI.out.2.2.1 ?_)
                        | ((with_reducible refine gate_dst (N := 41) rfl ?_); (try (refine gate_guard (by rfl) ?_; dsimp only)); refine wpList_load_at rfl 23 (.tmp 40) rfl _ rfl C _ HE.out.1.fc Try.underlying23 rfl HI.out.2.1 ?_)
                        | ((with_reducible refine gate_dst (N := 43) rfl ?_); (try (refine gate_guard (by rfl) ?_; dsimp only)); refine wpList_load_at rfl 23 (.tmp 42) rfl _ rfl C' _ HE.out.2.fc Try.underlying23 rfl HI.out.2.2.2 ?_)
                        | (go_at_call 23; refine (HSM.out _ HB4.out).mono ?_; rintro e w9 ⟨rfl, hd⟩; have HB9 := Aside0.mk (below_step HB4.out (Drawn0.below hd)); clear hd))
                      go_ret
                      exact ⟨congrArg (fun b => Ending.returned (Value.bool b)) (decide_eq_false (HNE.out (fun e => C4.out (by rw [← ES4.out, ← ET4.out, e])))).symm, HB4.out⟩
                · have C2 := Aside0.mk c2
                  have r2 : (s2 != t2) = true := by simp [c2]
                  clear c2
                  go_wp2_with (first
                    | ((with_reducible refine gate_dst (N := 34) rfl ?_); (try (refine gate_guard (by rfl) ?_; dsimp only)); refine wpList_load_at rfl 23 (.tmp 33) rfl _ rfl P _ HE.out.1.fp Try.underlying23 rfl HI.out.1 ?_)
                    | ((with_reducible refine gate_dst (N := 36) rfl ?_); (try (refine gate_guard (by rfl) ?_; dsimp only)); refine wpList_load_at rfl 23 (.tmp 35) rfl _ rfl P' _ HE.out.2.fp Try.underlying23 rfl HI.out.2.2.1 ?_)
                    | ((with_reducible refine gate_dst (N := 41) rfl ?_); (try (refine gate_guard (by rfl) ?_; dsimp only)); refine wpList_load_at rfl 23 (.tmp 40) rfl _ rfl C _ HE.out.1.fc Try.underlying23 rfl HI.out.2.1 ?_)
                    | ((with_reducible refine gate_dst (N := 43) rfl ?_); (try (refine gate_guard (by rfl) ?_; dsimp only)); refine wpList_load_at rfl 23 (.tmp 42) rfl _ rfl C' _ HE.out.2.fc Try.underlying23 rfl HI.out.2.2.2 ?_)
                    | (go_at_call 23; refine (HSM.out _ HB4.out).mono ?_; rintro e w9 ⟨rfl, hd⟩; have HB9 := Aside0.mk (below_step HB4.out (Drawn0.below hd)); clear hd))
                  go_ret
                  exact ⟨congrArg (fun b => Ending.returned (Value.bool b)) (decide_eq_false (HNE.out (fun e => C2.out (by rw [← ES2.out, ← ET2.out, e])))).symm, HB4.out⟩
          · have C1 := Aside0.mk c1
            have r1 : (s1 != t1) = true := by simp [c1]
            clear c1
            go_wp2_with (first
              | ((with_reducible refine gate_dst (N := 34) rfl ?_); (try (refine gate_guard (by rfl) ?_; dsimp only)); refine wpList_load_at rfl 23 (.tmp 33) rfl _ rfl P _ HE.out.1.fp Try.underlying23 rfl HI.out.1 ?_)
              | ((with_reducible refine gate_dst (N := 36) rfl ?_); (try (refine gate_guard (by rfl) ?_; dsimp only)); refine wpList_load_at rfl 23 (.tmp 35) rfl _ rfl P' _ HE.out.2.fp Try.underlying23 rfl HI.out.2.2.1 ?_)
              | ((with_reducible refine gate_dst (N := 41) rfl ?_); (try (refine gate_guard (by rfl) ?_; dsimp only)); refine wpList_load_at rfl 23 (.tmp 40) rfl _ rfl C _ HE.out.1.fc Try.underlying23 rfl HI.out.2.1 ?_)
              | ((with_reducible refine gate_dst (N := 43) rfl ?_); (try (refine gate_guard (by rfl) ?_; dsimp only)); refine wpList_load_at rfl 23 (.tmp 42) rfl _ rfl C' _ HE.out.2.fc Try.underlying23 rfl HI.out.2.2.2 ?_)
              | (go_at_call 23; refine (HSM.out _ HB4.out).mono ?_; rintro e w9 ⟨rfl, hd⟩; have HB9 := Aside0.mk (below_step HB4.out (Drawn0.below hd)); clear hd))
            go_ret
            exact ⟨congrArg (fun b => Ending.returned (Value.bool b)) (decide_eq_false (HNE.out (fun e => C1.out (by rw [← ES1.out, ← ET1.out, e])))).symm, HB4.out⟩
        · rw [if_pos (by rfl)]
          refine wp_alloc_e rfl ?_
          have HBa := Aside0.mk (below_alloc (below_drew1 (Below.refl W.heap.size W)) (.cells zE.toArray 27))
          (refine Shut.out hK _ _ (HALL.out _ HBa.out) (fun hHeld => ?_); clear hK K; (try simp only [Act.put, List.getElem_toArray, List.getElem_cons_zero, List.getElem_cons_succ, List.setIfInBounds_toArray, List.set_cons_zero, List.set_cons_succ]))
          refine wpAnyH_ready (rs := [8]) (by kernel_rfl) (by simp) (AllReadyH.cons rfl (fun K hK => ?_) AllReadyH.nil)
          rw [if_pos (by rfl)]
          refine wp_alloc_e rfl ?_
          have HBb := Aside0.mk (below_alloc HBa.out (.cells zE.toArray 27))
          have HYa := Aside0.mk (show (((W.drew.alloc (.cells zE.toArray 27)).alloc (.cells zE.toArray 27))).heap[W.drew.heap.size]? = some (.cells zE.toArray 27 (0, 0)) from blk_alloc (blk_new _ _) _)
          have HYb := Aside0.mk (show (((W.drew.alloc (.cells zE.toArray 27)).alloc (.cells zE.toArray 27))).heap[(W.drew.alloc (.cells zE.toArray 27)).heap.size]? = some (.cells zE.toArray 27 (0, 0)) from blk_new _ _)
          have HNab := Aside0.mk (show W.drew.heap.size ≠ (W.drew.alloc (.cells zE.toArray 27)).heap.size from by simp [World.alloc])
          have HGa := Aside0.mk (show W.heap.size ≤ W.drew.heap.size from Nat.le_refl _)
          have HGb := Aside0.mk (show W.heap.size ≤ (W.drew.alloc (.cells zE.toArray 27)).heap.size from by simp [World.alloc])
          obtain ⟨w2, hw2⟩ : ∃ V, ((W.drew.alloc (.cells zE.toArray 27)).alloc (.cells zE.toArray 27)) = V := ⟨_, rfl⟩
          obtain ⟨g6, hg6⟩ : ∃ g, (W.drew.alloc (.cells zE.toArray 27)).heap.size = g := ⟨_, rfl⟩
          obtain ⟨g7, hg7⟩ : ∃ g, W.drew.heap.size = g := ⟨_, rfl⟩
          rw [hw2] at HBb HYa HYb ⊢
          rw [hg7] at HYa HNab HGa ⊢
          rw [hg6] at HYb HNab HGb ⊢
          have HN67 := Aside0.mk (show g7 ≠ g6 from HNab.out)
          clear hw2 hg6 hg7 HNab
          (refine Shut.out hK _ _ (HALL.out _ HBb.out) (fun hHeld => ?_); clear hK K; (try simp only [Act.put, List.getElem_toArray, List.getElem_cons_zero, List.getElem_cons_succ, List.setIfInBounds_toArray, List.set_cons_zero, List.set_cons_succ]))
          refine wpAnyH_ready (rs := [10]) (by kernel_rfl) (by simp) (AllReadyH.cons rfl (fun K hK => ?_) AllReadyH.nil)
          rw [if_pos (by rfl)]
          refine wp_store_row 27 (.tmp 6) (.tmp 22) rfl g6 X.toArray rfl rfl 27 zE.toArray HYb.out HIX.out (by rw [List.size_toArray, List.size_toArray, zE_len, HXL.out]) HOX.out ?_
          have HBc := Aside0.mk (below_setRow HBb.out HGb.out X.toArray)
          have HYc := Aside0.mk ((setRow_other w2 g6 g7 X.toArray HN67.out).trans HYa.out)
          have HXc := Aside0.mk (setRow_heap w2 g6 zE.toArray X.toArray _ _ HYb.out)
          obtain ⟨w3, hw3⟩ : ∃ V, w2.setRow g6 X.toArray = V := ⟨_, rfl⟩
          rw [hw3] at HBc HYc HXc ⊢
          clear hw3
          (refine Shut.out hK _ _ (HALL.out _ HBc.out) (fun hHeld => ?_); clear hK K; (try simp only [Act.put, List.getElem_toArray, List.getElem_cons_zero, List.getElem_cons_succ, List.setIfInBounds_toArray, List.set_cons_zero, List.set_cons_succ]))
          refine wpAnyH_ready (rs := [11]) (by kernel_rfl) (by simp) (AllReadyH.cons rfl (fun K hK => ?_) AllReadyH.nil)
          rw [if_pos (by rfl)]
          refine wp_store_row 27 (.tmp 7) (.tmp 26) rfl g7 Y.toArray rfl rfl 27 zE.toArray HYc.out HIY.out (by rw [List.size_toArray, List.size_toArray, zE_len, HYL.out]) HOY.out ?_
          have HBd := Aside0.mk (below_setRow HBc.out HGa.out Y.toArray)
          have HXd := Aside0.mk ((setRow_other w3 g7 g6 Y.toArray HN67.out.symm).trans HXc.out)
          have HYd := Aside0.mk (setRow_heap w3 g7 zE.toArray Y.toArray _ _ HYc.out)
          obtain ⟨w4, hw4⟩ : ∃ V, w3.setRow g7 Y.toArray = V := ⟨_, rfl⟩
          rw [hw4] at HBd HYd HXd ⊢
          clear hw4
          (refine Shut.out hK _ _ (HALL.out _ HBd.out) (fun hHeld => ?_); clear hK K; (try simp only [Act.put, List.getElem_toArray, List.getElem_cons_zero, List.getElem_cons_succ, List.setIfInBounds_toArray, List.set_cons_zero, List.set_cons_succ]))
          refine wpAnyH_done (by kernel_rfl) ?_ _
          have HE := Aside0.mk (HMK.out w4 g6 g7 HXd.out HYd.out)
          have HB4 := Aside0.mk (below_step HB.out HBd.out)
          have hs1 := HE.out.1.s
          have hs2 := HE.out.1.sl
          have hs3 := HE.out.1.py
          have hs4 := HE.out.1.r
          have ht1 := HE.out.2.s
          have ht2 := HE.out.2.sl
          have ht3 := HE.out.2.py
          have ht4 := HE.out.2.r
          obtain ⟨s1, es1⟩ : ∃ v, seqE x = v := ⟨_, rfl⟩
          obtain ⟨t1, et1⟩ : ∃ v, seqE y = v := ⟨_, rfl⟩
          obtain ⟨s2, es2⟩ : ∃ v, saltE x = v := ⟨_, rfl⟩
          obtain ⟨t2, et2⟩ : ∃ v, saltE y = v := ⟨_, rfl⟩
          obtain ⟨s4, es4⟩ : ∃ v, redE x = v := ⟨_, rfl⟩
          obtain ⟨t4, et4⟩ : ∃ v, redE y = v := ⟨_, rfl⟩
          rw [es1] at hs1
          rw [et1] at ht1
          rw [es2] at hs2
          rw [et2] at ht2
          rw [es4] at hs4
          rw [et4] at ht4
          have ES1 := Aside0.mk es1
          have ET1 := Aside0.mk et1
          have ES2 := Aside0.mk es2
          have ET2 := Aside0.mk et2
          have ES4 := Aside0.mk es4
          have ET4 := Aside0.mk et4
          clear es1 et1 es2 et2 es4 et4
          by_cases c1 : s1 = t1
          · have C1 := Aside0.mk c1
            have r1 : (s1 != t1) = false := by simp [c1]
            clear c1
            have hp := HP.out
            have hq := HC.out
            cases bp with
            | false =>
              clear hq
              go_wp2_with (first
                | ((with_reducible refine gate_dst (N := 34) rfl ?_); (try (refine gate_guard (by rfl) ?_; dsimp only)); refine wpList_load_at rfl 23 (.tmp 33) rfl _ rfl P _ HE.out.1.fp Try.underlying23 rfl HI.out.1 ?_)
                | ((with_reducible refine gate_dst (N := 36) rfl ?_); (try (refine gate_guard (by rfl) ?_; dsimp only)); refine wpList_load_at rfl 23 (.tmp 35) rfl _ rfl P' _ HE.out.2.fp Try.underlying23 rfl HI.out.2.2.1 ?_)
                | ((with_reducible refine gate_dst (N := 41) rfl ?_); (try (refine gate_guard (by rfl) ?_; dsimp only)); refine wpList_load_at rfl 23 (.tmp 40) rfl _ rfl C _ HE.out.1.fc Try.underlying23 rfl HI.out.2.1 ?_)
                | ((with_reducible refine gate_dst (N := 43) rfl ?_); (try (refine gate_guard (by rfl) ?_; dsimp only)); refine wpList_load_at rfl 23 (.tmp 42) rfl _ rfl C' _ HE.out.2.fc Try.underlying23 rfl HI.out.2.2.2 ?_)
                | (go_at_call 23; refine (HSM.out _ HB4.out).mono ?_; rintro e w9 ⟨rfl, hd⟩; have HB9 := Aside0.mk (below_step HB4.out (Drawn0.below hd)); clear hd))
              go_ret
              exact ⟨congrArg (fun b => Ending.returned (Value.bool b)) (decide_eq_false (HNE.out (fun e => of_decide_eq_false HBP.out (congrArg prevE e)))).symm, HB4.out⟩
            | true =>
              cases bc with
              | false =>
                go_wp2_with (first
                  | ((with_reducible refine gate_dst (N := 34) rfl ?_); (try (refine gate_guard (by rfl) ?_; dsimp only)); refine wpList_load_at rfl 23 (.tmp 33) rfl _ rfl P _ HE.out.1.fp Try.underlying23 rfl HI.out.1 ?_)
                  | ((with_reducible refine gate_dst (N := 36) rfl ?_); (try (refine gate_guard (by rfl) ?_; dsimp only)); refine wpList_load_at rfl 23 (.tmp 35) rfl _ rfl P' _ HE.out.2.fp Try.underlying23 rfl HI.out.2.2.1 ?_)
                  | ((with_reducible refine gate_dst (N := 41) rfl ?_); (try (refine gate_guard (by rfl) ?_; dsimp only)); refine wpList_load_at rfl 23 (.tmp 40) rfl _ rfl C _ HE.out.1.fc Try.underlying23 rfl HI.out.2.1 ?_)
                  | ((with_reducible refine gate_dst (N := 43) rfl ?_); (try (refine gate_guard (by rfl) ?_; dsimp only)); refine wpList_load_at rfl 23 (.tmp 42) rfl _ rfl C' _ HE.out.2.fc Try.underlying23 rfl HI.out.2.2.2 ?_)
                  | (go_at_call 23; refine (HSM.out _ HB4.out).mono ?_; rintro e w9 ⟨rfl, hd⟩; have HB9 := Aside0.mk (below_step HB4.out (Drawn0.below hd)); clear hd))
                go_ret
                exact ⟨congrArg (fun b => Ending.returned (Value.bool b)) (decide_eq_false (HNE.out (fun e => of_decide_eq_false HBC.out (congrArg comE e)))).symm, HB4.out⟩
              | true =>
                by_cases c2 : s2 = t2
                · have C2 := Aside0.mk c2
                  have r2 : (s2 != t2) = false := by simp [c2]
                  clear c2
                  by_cases c4 : s4 = t4
                  · have C4 := Aside0.mk c4
                    subst c4
                    cases s4
                    · cases by_ with
                      | false =>
                        go_wp2_with (first
                          | ((with_reducible refine gate_dst (N := 34) rfl ?_); (try (refine gate_guard (by rfl) ?_; dsimp only)); refine wpList_load_at rfl 23 (.tmp 33) rfl _ rfl P _ HE.out.1.fp Try.underlying23 rfl HI.out.1 ?_)
                          | ((with_reducible refine gate_dst (N := 36) rfl ?_); (try (refine gate_guard (by rfl) ?_; dsimp only)); refine wpList_load_at rfl 23 (.tmp 35) rfl _ rfl P' _ HE.out.2.fp Try.underlying23 rfl HI.out.2.2.1 ?_)
                          | ((with_reducible refine gate_dst (N := 41) rfl ?_); (try (refine gate_guard (by rfl) ?_; dsimp only)); refine wpList_load_at rfl 23 (.tmp 40) rfl _ rfl C _ HE.out.1.fc Try.underlying23 rfl HI.out.2.1 ?_)
                          | ((with_reducible refine gate_dst (N := 43) rfl ?_); (try (refine gate_guard (by rfl) ?_; dsimp only)); refine wpList_load_at rfl 23 (.tmp 42) rfl _ rfl C' _ HE.out.2.fc Try.underlying23 rfl HI.out.2.2.2 ?_)
                          | (go_at_call 23; refine (HSM.out _ HB4.out).mono ?_; rintro e w9 ⟨rfl, hd⟩; have HB9 := Aside0.mk (below_step HB4.out (Drawn0.below hd)); clear hd))
                        go_ret
                        exact ⟨congrArg (fun b => Ending.returned (Value.bool b)) (decide_eq_false (HNE.out (fun e => of_decide_eq_false HBY.out (congrArg payE e)))).symm, HB9.out⟩
                      | true =>
                        have HEQ := Aside0.mk (show a.take (k + 1) = b.take (k + 1) from by
                          rw [HX.out, HY.out, HTK.out, ent_ext (x := x) (y := y) (by rw [ES1.out, ET1.out]; exact C1.out) (of_decide_eq_true HBP.out) (of_decide_eq_true HBC.out) (by rw [ES2.out, ET2.out]; exact C2.out) (by rw [ES4.out, ET4.out]) (of_decide_eq_true HBY.out)])
                        go_wp2_with (first
                          | ((with_reducible refine gate_dst (N := 34) rfl ?_); (try (refine gate_guard (by rfl) ?_; dsimp only)); refine wpList_load_at rfl 23 (.tmp 33) rfl _ rfl P _ HE.out.1.fp Try.underlying23 rfl HI.out.1 ?_)
                          | ((with_reducible refine gate_dst (N := 36) rfl ?_); (try (refine gate_guard (by rfl) ?_; dsimp only)); refine wpList_load_at rfl 23 (.tmp 35) rfl _ rfl P' _ HE.out.2.fp Try.underlying23 rfl HI.out.2.2.1 ?_)
                          | ((with_reducible refine gate_dst (N := 41) rfl ?_); (try (refine gate_guard (by rfl) ?_; dsimp only)); refine wpList_load_at rfl 23 (.tmp 40) rfl _ rfl C _ HE.out.1.fc Try.underlying23 rfl HI.out.2.1 ?_)
                          | ((with_reducible refine gate_dst (N := 43) rfl ?_); (try (refine gate_guard (by rfl) ?_; dsimp only)); refine wpList_load_at rfl 23 (.tmp 42) rfl _ rfl C' _ HE.out.2.fc Try.underlying23 rfl HI.out.2.2.2 ?_)
                          | (go_at_call 23; refine (HSM.out _ HB4.out).mono ?_; rintro e w9 ⟨rfl, hd⟩; have HB9 := Aside0.mk (below_step HB4.out (Drawn0.below hd)); clear hd))
                        go_roundw
                        case rel => exact ⟨k + 1, by have := HK.out; omega, by go_num, HEQ, HB9.out⟩
                        case measure => have := HK.out; simp [intOf]; omega
                    · cases by_ with
                      | false =>
                        go_wp2_with (first
                          | ((with_reducible refine gate_dst (N := 34) rfl ?_); (try (refine gate_guard (by rfl) ?_; dsimp only)); refine wpList_load_at rfl 23 (.tmp 33) rfl _ rfl P _ HE.out.1.fp Try.underlying23 rfl HI.out.1 ?_)
                          | ((with_reducible refine gate_dst (N := 36) rfl ?_); (try (refine gate_guard (by rfl) ?_; dsimp only)); refine wpList_load_at rfl 23 (.tmp 35) rfl _ rfl P' _ HE.out.2.fp Try.underlying23 rfl HI.out.2.2.1 ?_)
                          | ((with_reducible refine gate_dst (N := 41) rfl ?_); (try (refine gate_guard (by rfl) ?_; dsimp only)); refine wpList_load_at rfl 23 (.tmp 40) rfl _ rfl C _ HE.out.1.fc Try.underlying23 rfl HI.out.2.1 ?_)
                          | ((with_reducible refine gate_dst (N := 43) rfl ?_); (try (refine gate_guard (by rfl) ?_; dsimp only)); refine wpList_load_at rfl 23 (.tmp 42) rfl _ rfl C' _ HE.out.2.fc Try.underlying23 rfl HI.out.2.2.2 ?_)
                          | (go_at_call 23; refine (HSM.out _ HB4.out).mono ?_; rintro e w9 ⟨rfl, hd⟩; have HB9 := Aside0.mk (below_step HB4.out (Drawn0.below hd)); clear hd))
                        go_ret
                        exact ⟨congrArg (fun b => Ending.returned (Value.bool b)) (decide_eq_false (HNE.out (fun e => of_decide_eq_false HBY.out (congrArg payE e)))).symm, HB9.out⟩
                      | true =>
                        have HEQ := Aside0.mk (show a.take (k + 1) = b.take (k + 1) from by
                          rw [HX.out, HY.out, HTK.out, ent_ext (x := x) (y := y) (by rw [ES1.out, ET1.out]; exact C1.out) (of_decide_eq_true HBP.out) (of_decide_eq_true HBC.out) (by rw [ES2.out, ET2.out]; exact C2.out) (by rw [ES4.out, ET4.out]) (of_decide_eq_true HBY.out)])
                        go_wp2_with (first
                          | ((with_reducible refine gate_dst (N := 34) rfl ?_); (try (refine gate_guard (by rfl) ?_; dsimp only)); refine wpList_load_at rfl 23 (.tmp 33) rfl _ rfl P _ HE.out.1.fp Try.underlying23 rfl HI.out.1 ?_)
                          | ((with_reducible refine gate_dst (N := 36) rfl ?_); (try (refine gate_guard (by rfl) ?_; dsimp only)); refine wpList_load_at rfl 23 (.tmp 35) rfl _ rfl P' _ HE.out.2.fp Try.underlying23 rfl HI.out.2.2.1 ?_)
                          | ((with_reducible refine gate_dst (N := 41) rfl ?_); (try (refine gate_guard (by rfl) ?_; dsimp only)); refine wpList_load_at rfl 23 (.tmp 40) rfl _ rfl C _ HE.out.1.fc Try.underlying23 rfl HI.out.2.1 ?_)
                          | ((with_reducible refine gate_dst (N := 43) rfl ?_); (try (refine gate_guard (by rfl) ?_; dsimp only)); refine wpList_load_at rfl 23 (.tmp 42) rfl _ rfl C' _ HE.out.2.fc Try.underlying23 rfl HI.out.2.2.2 ?_)
                          | (go_at_call 23; refine (HSM.out _ HB4.out).mono ?_; rintro e w9 ⟨rfl, hd⟩; have HB9 := Aside0.mk (below_step HB4.out (Drawn0.below hd)); clear hd))
                        go_roundw
                        case rel => exact ⟨k + 1, by have := HK.out; omega, by go_num, HEQ, HB9.out⟩
                        case measure => have := HK.out; simp [intOf]; omega
                  · have C4 := Aside0.mk c4
                    obtain ⟨rfl, rfl⟩ | ⟨rfl, rfl⟩ : (s4 = true ∧ t4 = false) ∨ (s4 = false ∧ t4 = true) := by cases s4 <;> cases t4 <;> simp_all
                    · clear c4
                      go_wp2_with (first
                        | ((with_reducible refine gate_dst (N := 34) rfl ?_); (try (refine gate_guard (by rfl) ?_; dsimp only)); refine wpList_load_at rfl 23 (.tmp 33) rfl _ rfl P _ HE.out.1.fp Try.underlying23 rfl HI.out.1 ?_)
                        | ((with_reducible refine gate_dst (N := 36) rfl ?_); (try (refine gate_guard (by rfl) ?_; dsimp only)); refine wpList_load_at rfl 23 (.tmp 35) rfl _ rfl P' _ HE.out.2.fp Try.underlying23 rfl HI.out.2.2.1 ?_)
                        | ((with_reducible refine gate_dst (N := 41) rfl ?_); (try (refine gate_guard (by rfl) ?_; dsimp only)); refine wpList_load_at rfl 23 (.tmp 40) rfl _ rfl C _ HE.out.1.fc Try.underlying23 rfl HI.out.2.1 ?_)
                        | ((with_reducible refine gate_dst (N := 43) rfl ?_); (try (refine gate_guard (by rfl) ?_; dsimp only)); refine wpList_load_at rfl 23 (.tmp 42) rfl _ rfl C' _ HE.out.2.fc Try.underlying23 rfl HI.out.2.2.2 ?_)
                        | (go_at_call 23; refine (HSM.out _ HB4.out).mono ?_; rintro e w9 ⟨rfl, hd⟩; have HB9 := Aside0.mk (below_step HB4.out (Drawn0.below hd)); clear hd))
                      go_ret
                      exact ⟨congrArg (fun b => Ending.returned (Value.bool b)) (decide_eq_false (HNE.out (fun e => C4.out (by rw [← ES4.out, ← ET4.out, e])))).symm, HB4.out⟩
                    · clear c4
                      go_wp2_with (first
                        | ((with_reducible refine gate_dst (N := 34) rfl ?_); (try (refine gate_guard (by rfl) ?_; dsimp only)); refine wpList_load_at rfl 23 (.tmp 33) rfl _ rfl P _ HE.out.1.fp Try.underlying23 rfl HI.out.1 ?_)
                        | ((with_reducible refine gate_dst (N := 36) rfl ?_); (try (refine gate_guard (by rfl) ?_; dsimp only)); refine wpList_load_at rfl 23 (.tmp 35) rfl _ rfl P' _ HE.out.2.fp Try.underlying23 rfl HI.out.2.2.1 ?_)
                        | ((with_reducible refine gate_dst (N := 41) rfl ?_); (try (refine gate_guard (by rfl) ?_; dsimp only)); refine wpList_load_at rfl 23 (.tmp 40) rfl _ rfl C _ HE.out.1.fc Try.underlying23 rfl HI.out.2.1 ?_)
                        | ((with_reducible refine gate_dst (N := 43) rfl ?_); (try (refine gate_guard (by rfl) ?_; dsimp only)); refine wpList_load_at rfl 23 (.tmp 42) rfl _ rfl C' _ HE.out.2.fc Try.underlying23 rfl HI.out.2.2.2 ?_)
                        | (go_at_call 23; refine (HSM.out _ HB4.out).mono ?_; rintro e w9 ⟨rfl, hd⟩; have HB9 := Aside0.mk (below_step HB4.out (Drawn0.below hd)); clear hd))
                      go_ret
                      exact ⟨congrArg (fun b => Ending.returned (Value.bool b)) (decide_eq_false (HNE.out (fun e => C4.out (by rw [← ES4.out, ← ET4.out, e])))).symm, HB4.out⟩
                · have C2 := Aside0.mk c2
                  have r2 : (s2 != t2) = true := by simp [c2]
                  clear c2
                  go_wp2_with (first
                    | ((with_reducible refine gate_dst (N := 34) rfl ?_); (try (refine gate_guard (by rfl) ?_; dsimp only)); refine wpList_load_at rfl 23 (.tmp 33) rfl _ rfl P _ HE.out.1.fp Try.underlying23 rfl HI.out.1 ?_)
                    | ((with_reducible refine gate_dst (N := 36) rfl ?_); (try (refine gate_guard (by rfl) ?_; dsimp only)); refine wpList_load_at rfl 23 (.tmp 35) rfl _ rfl P' _ HE.out.2.fp Try.underlying23 rfl HI.out.2.2.1 ?_)
                    | ((with_reducible refine gate_dst (N := 41) rfl ?_); (try (refine gate_guard (by rfl) ?_; dsimp only)); refine wpList_load_at rfl 23 (.tmp 40) rfl _ rfl C _ HE.out.1.fc Try.underlying23 rfl HI.out.2.1 ?_)
                    | ((with_reducible refine gate_dst (N := 43) rfl ?_); (try (refine gate_guard (by rfl) ?_; dsimp only)); refine wpList_load_at rfl 23 (.tmp 42) rfl _ rfl C' _ HE.out.2.fc Try.underlying23 rfl HI.out.2.2.2 ?_)
                    | (go_at_call 23; refine (HSM.out _ HB4.out).mono ?_; rintro e w9 ⟨rfl, hd⟩; have HB9 := Aside0.mk (below_step HB4.out (Drawn0.below hd)); clear hd))
                  go_ret
                  exact ⟨congrArg (fun b => Ending.returned (Value.bool b)) (decide_eq_false (HNE.out (fun e => C2.out (by rw [← ES2.out, ← ET2.out, e])))).symm, HB4.out⟩
          · have C1 := Aside0.mk c1
            have r1 : (s1 != t1) = true := by simp [c1]
            clear c1
            go_wp2_with (first
              | ((with_reducible refine gate_dst (N := 34) rfl ?_); (try (refine gate_guard (by rfl) ?_; dsimp only)); refine wpList_load_at rfl 23 (.tmp 33) rfl _ rfl P _ HE.out.1.fp Try.underlying23 rfl HI.out.1 ?_)
              | ((with_reducible refine gate_dst (N := 36) rfl ?_); (try (refine gate_guard (by rfl) ?_; dsimp only)); refine wpList_load_at rfl 23 (.tmp 35) rfl _ rfl P' _ HE.out.2.fp Try.underlying23 rfl HI.out.2.2.1 ?_)
              | ((with_reducible refine gate_dst (N := 41) rfl ?_); (try (refine gate_guard (by rfl) ?_; dsimp only)); refine wpList_load_at rfl 23 (.tmp 40) rfl _ rfl C _ HE.out.1.fc Try.underlying23 rfl HI.out.2.1 ?_)
              | ((with_reducible refine gate_dst (N := 43) rfl ?_); (try (refine gate_guard (by rfl) ?_; dsimp only)); refine wpList_load_at rfl 23 (.tmp 42) rfl _ rfl C' _ HE.out.2.fc Try.underlying23 rfl HI.out.2.2.2 ?_)
              | (go_at_call 23; refine (HSM.out _ HB4.out).mono ?_; rintro e w9 ⟨rfl, hd⟩; have HB9 := Aside0.mk (below_step HB4.out (Drawn0.below hd)); clear hd))
            go_ret
            exact ⟨congrArg (fun b => Ending.returned (Value.bool b)) (decide_eq_false (HNE.out (fun e => C1.out (by rw [← ES1.out, ← ET1.out, e])))).symm, HB4.out⟩
      · have hkm : k = m := by omega
        subst hkm
        have HF := Aside0.mk (show a = b by
          have h := HTK.out
          rwa [List.take_of_length_le (by have := HM.out; omega), List.take_of_length_le (by have := HM2.out; omega)] at h)
        clear hlt hk
        go_wp2_with (fail)
        go_ret
        exact ⟨(congrArg (fun b => Ending.returned (Value.bool b)) (decide_eq_true HF.out).symm), HB.out⟩
  · have HF := Aside0.mk (show a ≠ b from fun h => hn (by rw [h]))
    have e1 : ((a.length : Int) == (b.length : Int)) = false := by rw [beq_eq_false_iff_ne]; omega
    have e2 : ((a.length : Int) != (b.length : Int)) = true := by rw [bne_iff_ne]; omega
    have e3 : (a.length == b.length) = false := by rw [beq_eq_false_iff_ne]; exact hn
    have hn2 : ¬ a.length = b.length := hn
    clear h0 h1 hl hl2 hn hs ha hb
    go_enter Try.func20, Try.ntmps20
    go_wp2_with (fail)
    go_ret
    exact ⟨(congrArg (fun b => Ending.returned (Value.bool b)) (decide_eq_false HF.out).symm), HB.out⟩
end Go.Proofs.Ytfpkgdenohcglaa.Chn
/- chain.read walked: the next entry of a reader (printed by gen_chnread.py). -/
namespace Go.Proofs.Ytfpkgdenohcglaa.Chn
set_option linter.unusedVariables false
set_option linter.unusedSimpArgs false
open Go.RowKit Go.Proofs.Ytfpkgdenohcglaa.Lo Go.Proofs.Ytfpkgdenohcglaa.RdPlain Go.Proofs.Ytfpkgdenohcglaa.Base Go.Proofs.Ytfpkgdenohcglaa.TlvPlain Go.Proofs.Ytfpkgdenohcglaa.ShaPlain Go.Proofs.Ytfpkgdenohcglaa.Sha Go.Proofs.Ytfpkgdenohcglaa.Com Go.Proofs.Ytfpkgdenohcglaa.Aid Go.Proofs.YtfpkgdenohcglaaW.PrintWords Go.Proofs.YtfpkgdenohcglaaW.PrintLast Go.Proofs.YtfpkgdenohcglaaW.PrintMore
open Tlv (RdO takeO_ okO numO_ textO_ leftO_ newO)
attribute [local irreducible] shaB
theorem rb_step {w0 W W' : World} {g : Nat} {s : Option (List Int)} {A : Option Addr} {xs : List Int} (h : Rb W A xs) (hs : RdO w0 W g s) (hk : KeepBut W W' g none) : Rb W' A xs := by
  obtain ⟨_, _, cs, h1, h2⟩ := hs.blk
  exact reads_keep h hk (reads_ne h1 h2 h)
theorem atC_step {W W' : World} {g : Nat} {ad : Addr} {cs : List Value} (h : AtC W ad cs) (hk : KeepBut W W' g none) (hne : ad.block ≠ g) : AtC W' ad cs := fun j v hj => keep_cell hk (h j v hj) (by rw [add_block]; exact hne)
theorem grown_keep {W W' : World} {q : Nat} (hg : W.grownBy W' (some q)) : KeepBut W W' q none := ⟨hg.size, fun i hi h1 _ => hg.block i hi (fun e => h1 (Option.some.inj e))⟩
theorem rb_row {W W' : World} {q : Nat} {A : Option Addr} {xs : List Int} (h : Rb W A xs) (hg : W.grownBy W' (some q)) (hne : ∀ ad, A = some ad → ad.block ≠ q) : Rb W' A xs := reads_keep h (grown_keep hg) (fun a e _ => hne a e)
theorem grown_setCell (W : World) (g j : Nat) (v : Value) : W.grownBy (W.setCell ⟨g, j, none⟩ v) (some g) :=
  ⟨rfl, rfl, rfl, by simp [World.setCell], fun k _ hk => Below.heap_setCell W ⟨g, j, none⟩ v k (fun e => hk (by rw [e]))⟩
theorem rd_flag {st : Option (List Int)} {r : List Int} (h : (rdE st).st = some r) : ∃ f, (rdE st).f = [f] := by
  have e : (takeO st 1).1.length = 1 ∨ (takeO st 1).2 = none := by
    unfold takeO
    split
    · split
      · left; rw [List.length_take]; omega
      · exact Or.inr rfl
    · exact Or.inr rfl
  rcases e with e | e
  · obtain ⟨f, hf⟩ := List.length_eq_one_iff.1 e
    exact ⟨f, hf⟩
  · unfold rdE at h
    rw [e, sumO_none] at h
    dsimp only at h
    rw [num_none, text_none] at h
    cases h
theorem sumO_u8 {st : Option (List Int)} (hu : ∀ bs, st = some bs → U8 bs) : U8' (sumO st).1 ∧ ∀ bs, (sumO st).2 = some bs → U8 bs := by
  have h := takeO_u8 hu 32
  refine ⟨?_, h.2⟩
  unfold sumO
  dsimp only
  split
  · exact h.1
  · exact Z_u8
theorem countO_u8 {st : Option (List Int)} (hu : ∀ bs, st = some bs → U8 bs) (m : Int) : ∀ bs, (countO st m).2 = some bs → U8 bs := by
  unfold countO
  split
  · intro bs h; cases h
  · exact numO_u8 hu
theorem textO_u8 {st : Option (List Int)} (hu : ∀ bs, st = some bs → U8 bs) (m : Int) : U8 (textO st m).1 ∧ ∀ bs, (textO st m).2 = some bs → U8 bs := takeO_u8 (countO_u8 hu m) _
theorem textO_le {st : Option (List Int)} {m : Int} (hm : 0 ≤ m) : ((textO st m).1.length : Int) ≤ m := by
  unfold textO takeO
  have hc : (countO st m).1 ≤ m := by
    unfold countO
    split
    · exact hm
    · next h => omega
  split
  · split
    · next h => dsimp only; rw [List.length_take]; omega
    · exact hm
  · exact hm
theorem rd_u8 {st : Option (List Int)} (hu : ∀ bs, st = some bs → U8 bs) : U8' (rdE st).com ∧ 0 ≤ (rdE st).salt ∧ (rdE st).salt ≤ 18446744073709551615 ∧ U8 (rdE st).pay ∧ (rdE st).pay.length ≤ 100 ∧ ∀ bs, (rdE st).st = some bs → U8 bs := by
  have h1 := takeO_u8 hu 1
  have h2 := sumO_u8 h1.2
  have h3 := numO_range h2.2
  have h4 := numO_u8 h2.2
  have h5 := textO_u8 h4 100
  have h6 := textO_le (st := (numO (sumO (takeO st 1).2).2).2) (m := 100) (by decide)
  exact ⟨h2.1, h3.1, h3.2, h5.1, by show (textO _ 100).1.length ≤ 100; omega, h5.2⟩
theorem entR_eu {st : Option (List Int)} (hu : ∀ bs, st = some bs → U8 bs) {seq : Int} {prev : Sm} (hp : prev.length = 32) (hpu : U8' prev) : Eu (entR st seq prev) := by
  obtain ⟨h1, h2, h3, h4, _, _⟩ := rd_u8 hu
  exact ⟨hp, hpu, sumO_len _, h1, h2, h3, h4⟩
section
variable {o : Oper} {a : Act} {Q : Exit → Act → World → Prop} {Kc : Act → World → Prop} {W : World}
theorem yieldsIf_new {ops : Array Oper} {S : World → Prop} {op : Oper} (hw : Region.wanted op (yielded ops a.tmps) = true) (x0 x1 x2 x3 x4 : Operand) (ho : op.op = .build 27 #[(0, x0), (1, x1), (2, x2), (3, x3), (4, x4)]) (n sl : Int) (P C : List Value) (hP : P.length = 32) (hC : C.length = 32) (A : Option Addr) (k c : Nat)
    (h0 : a.eval x0 = .int .i64 n) (h1 : a.eval x1 = .agg P.toArray) (h2 : a.eval x2 = .agg C.toArray) (h3 : a.eval x3 = .int .u64 sl) (h4 : a.eval x4 = .slice A k c) : YieldsIf Try.prog ops S op (.agg (cellsE n P C sl A k c false).toArray) a :=
  .inl ⟨hw, fun w hw' => by
    have hp : (#[((0 : Nat), x0), (1, x1), (2, x2), (3, x3), (4, x4)].map fun (i, y) => (i, a.eval y)) = #[(0, .int .i64 n), (1, .agg P.toArray), (2, .agg C.toArray), (3, .int .u64 sl), (4, .slice A k c)] := by simp [h0, h1, h2, h3, h4]
    unfold execOp
    simp only [ho, hp, Sem.run_bind, run_new w n sl P C hP hC A k c, Result.andThen_ok, Sem.run_pure]⟩
end
theorem cellsE_one {s sl : Int} {P C : List Value} {A : Option Addr} {k c : Nat} {r : Bool} (f1 : ∀ v ∈ P, v.oneCell' = true) (f2 : ∀ v ∈ C, v.oneCell' = true) : (cellsE s P C sl A k c r).toArray.all (·.oneCell') = true := by
  simp only [List.all_toArray, List.all_eq_true]
  intro v hv
  unfold cellsE at hv
  simp only [List.mem_cons, List.mem_append, List.not_mem_nil, or_false] at hv
  rcases hv with rfl | hv | hv | rfl | rfl | rfl
  · rfl
  · exact f1 v hv
  · exact f2 v hv
  · rfl
  · rfl
  · rfl
theorem nums_one' (d : List Int) : ∀ v ∈ nums .u8 d, v.oneCell' = true := by intro v hv; obtain ⟨y, _, rfl⟩ := List.mem_map.1 hv; rfl
theorem set_flag (s sl : Int) (P C : List Value) (hP : P.length = 32) (hC : C.length = 32) (A : Option Addr) (n c : Nat) (r b : Bool) :
    (cellsE s P C sl A n c r).set 67 (.bool b) = cellsE s P C sl A n c b := by
  have e : ∀ l : List Value, Value.int .i64 s :: (P ++ (C ++ l)) = (Value.int .i64 s :: (P ++ C)) ++ l := fun l => by simp
  have hn : (Value.int .i64 s :: (P ++ C)).length = 65 := by simp [hP, hC]
  unfold cellsE
  rw [e, e, List.set_append_right _ _ (by rw [hn]; decide), hn]
  rfl
/-- What a reading of an entry leaves. -/
def ReadQ (w0 w : World) (g : Nat) (r : Option (Ent × List Int)) (e : Ending) (w' : World) : Prop :=
  match r with
  | some (x, s) => ∃ P C A c, e = .returned (.tuple #[.agg (cE x P C A c).toArray, .bool true]) ∧ EntC w' x P C A c ∧ Ob w' w.heap.size (.slice A (payE x).length c) (payE x) ∧ Tlv.Left w0 w w' g (some s)
  | none => ∃ (X : List Value) (s : Option (List Int)), e = .returned (.tuple #[.agg X.toArray, .bool false]) ∧ X.length = 68 ∧ X.toArray.all (·.oneCell') = true ∧ Tlv.Left w0 w w' g s
set_option maxHeartbeats 8000000 in
set_option maxRecDepth 100000 in
theorem read_c (w0 w : World) (g : Nat) (st : Option (List Int)) (h : RdO w0 w g st) (hB : Below w0.heap.size w0 w) (hu : ∀ bs, st = some bs → U8 bs) (sq : Int) (pv : Sm) (hp : pv.length = 32) (hpu : U8' pv) :
    Calls Try.prog 61 #[.pointer (some ⟨g, 0, none⟩), .int .i64 sq, sumV pv] w (ReadQ w0 w g (readE st sq pv)) := by
  obtain ⟨P, hP⟩ := sumC pv hp
  obtain ⟨C, hC⟩ := sumC (rdE st).com (sumO_len _)
  rw [hP.v]
  have HG := Aside0.mk (And.intro h.blk.2.1 hB.size)
  have HW : Below w.heap.size w ((w.alloc (.cells P.toArray 23)).alloc (.cells zE.toArray 27)) := below_alloc (below_alloc (Below.refl _ _) _) _
  have HL1 := Aside0.mk (show Tlv.Left w0 w ((w.alloc (.cells P.toArray 23)).alloc (.cells zE.toArray 27)) g st from left_below (Tlv.Left.refl h hB) HW)
  have HP1 := Aside0.mk (show AtC ((w.alloc (.cells P.toArray 23)).alloc (.cells zE.toArray 27)) ⟨w.heap.size, 0, none⟩ P from atC_blk (blk_alloc (blk_new _ _) _))
  have HZ1 := Aside0.mk (show ((w.alloc (.cells P.toArray 23)).alloc (.cells zE.toArray 27)).heap[w.heap.size + 1]? = some (.cells zE.toArray 27 (0, 0)) from second_new' _ _ _)
  have HTK := Aside0.mk (fun V (hV : Tlv.Left w0 w V g st) => takeO_ w0 V g st 1 hV.1 hV.2.1)
  have HSUM := Aside0.mk (fun V (hV : Tlv.Left w0 w V g (takeO st 1).2) => sum_c w0 V g (takeO st 1).2 hV.1 hV.2.1)
  have HNUM := Aside0.mk (fun V (hV : Tlv.Left w0 w V g (sumO (takeO st 1).2).2) => numO_ w0 V g (sumO (takeO st 1).2).2 hV.1 hV.2.1)
  have HTXT := Aside0.mk (fun V (hV : Tlv.Left w0 w V g (numO (sumO (takeO st 1).2).2).2) => textO_ w0 V g (numO (sumO (takeO st 1).2).2).2 100 hV.1 hV.2.1 (by decide))
  have HFS := Aside0.mk (fun r (h : (rdE st).st = some r) => rd_flag h)
  have hru := rd_u8 hu
  have HE := Aside0.mk (show readE st sq pv = match (rdE st).st with
    | none => none
    | some r => if 1 < (rdE st).f.getD 0 0 then none else if rightT (sq, pv, (rdE st).com, (rdE st).salt, (rdE st).pay, decide ((rdE st).f.getD 0 0 = 1)) then some ((sq, pv, (rdE st).com, (rdE st).salt, (rdE st).pay, decide ((rdE st).f.getD 0 0 = 1)), r) else none from rfl)
  have HEU := Aside0.mk (fun (b : Bool) => show Eu (sq, pv, (rdE st).com, (rdE st).salt, (rdE st).pay, b) from ⟨hp, hpu, sumO_len _, hru.1, hru.2.1, hru.2.2.1, hru.2.2.2.1⟩)
  have HPL := Aside0.mk (show (rdE st).pay.length ≤ 100000 from Nat.le_trans hru.2.2.2.2.1 (by decide))
  rw [show (sumO (takeO st 1).2).1 = (rdE st).com from rfl, hC.v] at HSUM
  rw [show (numO (sumO (takeO st 1).2).2).1 = (rdE st).salt from rfl] at HNUM
  rw [show (textO (numO (sumO (takeO st 1).2).2).2 100).1 = (rdE st).pay from rfl, show (textO (numO (sumO (takeO st 1).2).2).2 100).2 = (rdE st).st from rfl] at HTXT
  rw [show (takeO st 1).1 = (rdE st).f from rfl] at HTK
  obtain ⟨F, hF⟩ : ∃ t, (rdE st).f = t := ⟨_, rfl⟩
  obtain ⟨cm, hcm⟩ : ∃ t, (rdE st).com = t := ⟨_, rfl⟩
  obtain ⟨sl, hsl⟩ : ∃ t, (rdE st).salt = t := ⟨_, rfl⟩
  obtain ⟨py, hpy⟩ : ∃ t, (rdE st).pay = t := ⟨_, rfl⟩
  obtain ⟨st4, hs4⟩ : ∃ t, (rdE st).st = t := ⟨_, rfl⟩
  obtain ⟨st3, hs3⟩ : ∃ t, (numO (sumO (takeO st 1).2).2).2 = t := ⟨_, rfl⟩
  obtain ⟨st2, hs2⟩ : ∃ t, (sumO (takeO st 1).2).2 = t := ⟨_, rfl⟩
  obtain ⟨st1, hs1⟩ : ∃ t, (takeO st 1).2 = t := ⟨_, rfl⟩
  rw [hF] at HTK HFS HE
  rw [hcm] at HE HEU hC
  rw [hsl] at HE HEU HNUM
  rw [hpy] at HE HEU HPL HTXT
  rw [hs4] at HE HFS HTXT
  rw [hs3] at HNUM HTXT
  rw [hs2] at HNUM HSUM
  rw [hs1] at HSUM HTK
  have HPC := Aside0.mk (And.intro hP hC)
  have HLP := Aside0.mk (And.intro hP.lenC hC.lenC)
  have HIP := Aside0.mk hP.blk
  have HZI := Aside0.mk (show (Try.prog.info? 27).map (·.size) = some zE.toArray.size ∧ zE.toArray.all (·.oneCell') = true from ⟨by rw [List.size_toArray, zE_len]; exact info_ent, cellsE_one (nums_one' _) (nums_one' _)⟩)
  have HCI := Aside0.mk (fun (A : Option Addr) (k c : Nat) => show (Try.prog.info? 27).map (·.size) = some (cellsE sq P C sl A k c false).toArray.size ∧ zE.toArray.size = (cellsE sq P C sl A k c false).toArray.size ∧ (cellsE sq P C sl A k c false).toArray.all (·.oneCell') = true from by
    have e1 : (cellsE sq P C sl A k c false).length = 68 := by unfold cellsE; simp [hP.lenC, hC.lenC]
    refine ⟨by rw [List.size_toArray, e1]; exact info_ent, by rw [List.size_toArray, List.size_toArray, zE_len, e1], ?_⟩
    exact cellsE_one (by rw [← hP.eq]; exact nums_one' _) (by rw [← hC.eq]; exact nums_one' _))
  clear h hB hu hp hpu hP hC HW hru hF hcm hsl hpy hs4 hs3 hs2 hs1
  have hu24 := Try.underlying23
  have hu27 := Try.underlying27
  go_enter Try.func61, Try.ntmps61
  go_upto_region 1 with (fail)
  obtain ⟨W1, hW1⟩ : ∃ V, (w.alloc (.cells P.toArray 23)).alloc (.cells zE.toArray 27) = V := ⟨_, rfl⟩
  rw [hW1] at HL1 HP1 HZ1
  rw [show (w.alloc (.cells P.toArray 23)).alloc (.cells Try.zeroCells27 27) = W1 from hW1]
  clear hW1
  go_wp2_with (fail)
  refine (HTK.out _ HL1.out).mono ?_
  rintro e w2 ⟨v, rfl, ho, hl⟩
  obtain ⟨A5, c5, rfl, hc5, hr5⟩ := Kd.R_reads ho
  have HFB2 := Aside0.mk (show ∀ ad, A5 = some ad → ad.block < w2.drew.heap.size from fun ad e => Kd.R_lt ho ad.block (by rw [e]; rfl))
  have HFd := Aside0.mk (show Rb w2.drew A5 F from Kd.C_drew hr5)
  have HLd := Aside0.mk (left_below (HL1.out.trans hl) (below_drew1 (Below.refl _ _)))
  have HPd := Aside0.mk ((atC_step HP1.out hl.2.2 (by have := HG.out.1; dsimp only; omega)).below (below_drew1 (Below.refl _ _)))
  have HZd := Aside0.mk (show w2.drew.heap[w.heap.size + 1]? = some (.cells zE.toArray 27 (0, 0)) from hl.2.2.blk HZ1.out (by have := HG.out.1; omega) (by simp))
  clear ho hl hc5 hr5
  go_wp2_with (fail)
  refine wp_region_held_drew (S := fun V => AtC V ⟨w.heap.size, 0, none⟩ P) (by kernel_rfl) HPd.out (fun hHeld => ?_)
  (refine wpAnyH_take (i := 0) (v := ?_) rfl (by kernel_rfl) (by kernel_rfl) (by kernel_rfl) (fun _ _ _ h => h) (Or.inl ⟨by rfl, ?_⟩) (by assumption) ?_; (case' refine_2 => (intro w hSw; go_simp; try with_reducible rfl)); (try simp only [Act.put, List.getElem_toArray, List.getElem_cons_zero, List.getElem_cons_succ, List.setIfInBounds_toArray, List.set_cons_zero, List.set_cons_succ]))
  (refine wpAnyH_take (i := 1) rfl (by kernel_rfl) (by kernel_rfl) (by kernel_rfl) (fun _ _ _ h => h) (yieldsIf_load_at (by rfl) _ _ rfl ⟨w.heap.size, 0, none⟩ rfl P _ (fun _ h => h) (by assumption) rfl HIP.out) (by assumption) ?_; (try simp only [Act.put, List.getElem_toArray, List.getElem_cons_zero, List.getElem_cons_succ, List.setIfInBounds_toArray, List.set_cons_zero, List.set_cons_succ]))
  (refine wpAnyH_take (i := 2) (v := ?_) rfl (by kernel_rfl) (by kernel_rfl) (by kernel_rfl) (fun _ _ _ h => h) (Or.inl ⟨by rfl, ?_⟩) (by assumption) ?_; (case' refine_2 => (intro w hSw; go_simp; try with_reducible rfl)); (try simp only [Act.put, List.getElem_toArray, List.getElem_cons_zero, List.getElem_cons_succ, List.setIfInBounds_toArray, List.set_cons_zero, List.set_cons_succ]))
  (refine wpAnyH_take (i := 4) (v := ?_) rfl (by kernel_rfl) (by kernel_rfl) (by kernel_rfl) (fun _ _ _ h => h) (Or.inl ⟨by rfl, ?_⟩) (by assumption) ?_; (case' refine_2 => (intro w hSw; go_simp; try with_reducible rfl)); (try simp only [Act.put, List.getElem_toArray, List.getElem_cons_zero, List.getElem_cons_succ, List.setIfInBounds_toArray, List.set_cons_zero, List.set_cons_succ]))
  (refine wpAnyH_take (i := 6) (v := ?_) rfl (by kernel_rfl) (by kernel_rfl) (by kernel_rfl) (fun _ _ _ h => h) (Or.inl ⟨by rfl, ?_⟩) (by assumption) ?_; (case' refine_2 => (intro w hSw; go_simp; try with_reducible rfl)); (try simp only [Act.put, List.getElem_toArray, List.getElem_cons_zero, List.getElem_cons_succ, List.setIfInBounds_toArray, List.set_cons_zero, List.set_cons_succ]))
  refine wpAnyH_ready (rs := [3, 9]) (by kernel_rfl) (by simp) (AllReadyH.cons rfl (fun K hK => ?_) (AllReadyH.cons rfl (fun K hK => ?_) AllReadyH.nil))
  · go_simp
    refine (HSUM.out _ HLd.out).mono ?_
    rintro e zz1 ⟨rfl, hl⟩
    have HL_1 := Aside0.mk (HLd.out.trans hl)
    have HF_1 := Aside0.mk (rb_step HFd.out HLd.out.1 hl.2.2)
    have HP_1 := Aside0.mk (atC_step HPd.out hl.2.2 (by have := HG.out.1; dsimp only; omega))
    have HZ_1 := Aside0.mk (hl.2.2.blk HZd.out (by have := HG.out.1; omega) (by simp))
    have HFB_1 := Aside0.mk (show ∀ ad, A5 = some ad → ad.block < zz1.heap.size from fun ad e => Nat.lt_of_lt_of_le (HFB2.out ad e) hl.2.2.1)
    clear hl
    (refine Shut.out hK _ _ HP_1.out (fun hHeld => ?_); clear hK K; (try simp only [Act.put, List.getElem_toArray, List.getElem_cons_zero, List.getElem_cons_succ, List.setIfInBounds_toArray, List.set_cons_zero, List.set_cons_succ]))
    refine wpAnyH_ready (rs := [5, 9]) (by kernel_rfl) (by simp) (AllReadyH.cons rfl (fun K hK => ?_) (AllReadyH.cons rfl (fun K hK => ?_) AllReadyH.nil))
    · go_simp
      refine (HNUM.out _ HL_1.out).mono ?_
      rintro e zz2 ⟨rfl, hl⟩
      have HL_2 := Aside0.mk (HL_1.out.trans hl)
      have HF_2 := Aside0.mk (rb_step HF_1.out HL_1.out.1 hl.2.2)
      have HP_2 := Aside0.mk (atC_step HP_1.out hl.2.2 (by have := HG.out.1; dsimp only; omega))
      have HZ_2 := Aside0.mk (hl.2.2.blk HZ_1.out (by have := HG.out.1; omega) (by simp))
      have HFB_2 := Aside0.mk (show ∀ ad, A5 = some ad → ad.block < zz2.heap.size from fun ad e => Nat.lt_of_lt_of_le (HFB_1.out ad e) hl.2.2.1)
      clear hl
      (refine Shut.out hK _ _ HP_2.out (fun hHeld => ?_); clear hK K; (try simp only [Act.put, List.getElem_toArray, List.getElem_cons_zero, List.getElem_cons_succ, List.setIfInBounds_toArray, List.set_cons_zero, List.set_cons_succ]))
      refine wpAnyH_ready (rs := [7, 9]) (by kernel_rfl) (by simp) (AllReadyH.cons rfl (fun K hK => ?_) (AllReadyH.cons rfl (fun K hK => ?_) AllReadyH.nil))
      · go_simp
        refine (HTXT.out _ HL_2.out).mono ?_
        rintro e zz3 ⟨v, rfl, ho, hl⟩
        obtain ⟨AY, cY, rfl⟩ := Kd.R_slice ho
        have HL_3 := Aside0.mk (HL_2.out.trans hl)
        have HF_3 := Aside0.mk (rb_step HF_2.out HL_2.out.1 hl.2.2)
        have HP_3 := Aside0.mk (atC_step HP_2.out hl.2.2 (by have := HG.out.1; dsimp only; omega))
        have HZ_3 := Aside0.mk (hl.2.2.blk HZ_2.out (by have := HG.out.1; omega) (by simp))
        have HFB_3 := Aside0.mk (show ∀ ad, A5 = some ad → ad.block < zz3.heap.size from fun ad e => Nat.lt_of_lt_of_le (HFB_2.out ad e) hl.2.2.1)
        have HY_3 := Aside0.mk (show Kd.R (Kd.int .u8) 5 zz3 w.heap.size (fun k => k ≠ w.heap.size + 1) (.slice AY py.length cY) py from
          Kd.R_lower (Kd.R_mono (Kd.R_bound ho) (fun k hk => by have h1 := hk.2.1; have h3 := blk_lt HZ_2.out; omega)) HL_2.out.2.2.1)
        clear hl ho
        (refine Shut.out hK _ _ HP_3.out (fun hHeld => ?_); clear hK K; (try simp only [Act.put, List.getElem_toArray, List.getElem_cons_zero, List.getElem_cons_succ, List.setIfInBounds_toArray, List.set_cons_zero, List.set_cons_succ]))
        (refine wpAnyH_take (i := 8) rfl (by kernel_rfl) (by kernel_rfl) (by kernel_rfl) (fun _ _ _ h => h) (yieldsIf_new (by rfl) (.tmp 12) (.tmp 13) (.tmp 15) (.tmp 17) (.tmp 19) rfl sq sl P C HLP.out.1 HLP.out.2 AY py.length cY rfl rfl rfl rfl rfl) (by assumption) ?_; (try simp only [Act.put, List.getElem_toArray, List.getElem_cons_zero, List.getElem_cons_succ, List.setIfInBounds_toArray, List.set_cons_zero, List.set_cons_succ]))
        refine wpAnyH_ready (rs := [9]) (by kernel_rfl) (by simp) (AllReadyH.cons rfl (fun K hK => ?_) AllReadyH.nil)
        · rw [if_pos (by rfl)]
          refine wp_alloc_e rfl ?_
          have hb := (below_alloc (Below.refl zz3.heap.size zz3) (.cells zE.toArray 27))
          have H9_4 := Aside0.mk (show (zz3.alloc (.cells zE.toArray 27)).heap[zz3.heap.size]? = some (.cells zE.toArray 27 (0, 0)) from blk_new _ _)
          have HL_4 := Aside0.mk (left_below HL_3.out hb)
          have HF_4 := Aside0.mk (show Rb (zz3.alloc (.cells zE.toArray 27)) A5 F from Kd.C_below HF_3.out hb)
          have HFN_4 := Aside0.mk (show ∀ ad, A5 = some ad → ad.block ≠ zz3.heap.size from fun ad e => Nat.ne_of_lt (HFB_3.out ad e))
          have HP_4 := Aside0.mk (HP_3.out.below hb)
          have HZ_4 := Aside0.mk (blk_below HZ_3.out hb)
          have HN_4 := Aside0.mk (show w.heap.size + 1 < zz3.heap.size from blk_lt HZ_3.out)
          have HY_4 := Aside0.mk (show Kd.R (Kd.int .u8) 5 (zz3.alloc (.cells zE.toArray 27)) w.heap.size (fun k => k ≠ zz3.heap.size ∧ k ≠ w.heap.size + 1) (.slice AY py.length cY) py from
            Kd.R_below (Kd.R_mono (Kd.R_bound HY_3.out) (fun k hk => ⟨Nat.ne_of_lt hk.2.2.1, hk.1⟩)) hb)
          obtain ⟨zz4, hw_⟩ : ∃ W_, zz3.alloc (.cells zE.toArray 27) = W_ := ⟨_, rfl⟩
          obtain ⟨g9, hg_⟩ : ∃ g_, zz3.heap.size = g_ := ⟨_, rfl⟩
          clear hb
          rw [hw_, hg_] at H9_4
          rw [hg_] at HFN_4 HN_4
          rw [hw_] at HL_4 HF_4 HP_4 HZ_4
          rw [hw_, hg_] at HY_4
          rw [hw_, hg_]
          clear hw_ hg_
          (refine Shut.out hK _ _ HP_4.out (fun hHeld => ?_); clear hK K; (try simp only [Act.put, List.getElem_toArray, List.getElem_cons_zero, List.getElem_cons_succ, List.setIfInBounds_toArray, List.set_cons_zero, List.set_cons_succ]))
          refine wpAnyH_ready (rs := [10]) (by kernel_rfl) (by simp) (AllReadyH.cons rfl (fun K hK => ?_) AllReadyH.nil)
          rw [if_pos (by rfl)]
          refine wp_store_row 27 (.tmp 9) (.tmp 20) rfl g9 (cellsE sq P C sl AY py.length cY false).toArray rfl rfl 27 zE.toArray H9_4.out (HCI.out _ _ _).1 (HCI.out _ _ _).2.1 (HCI.out _ _ _).2.2 ?_
          have hg := grown_setRow zz4 g9 (cellsE sq P C sl AY py.length cY false).toArray
          have HL8 := Aside0.mk (left_grown HL_4.out (below_setRow (Below.refl _ _) (by have := HN_4.out; omega) _) hg (fun b e => by injection e with e; subst e; have := HN_4.out; have := HG.out; exact ⟨by omega, by omega⟩) HG.out.2)
          have HF8 := Aside0.mk (rb_row HF_4.out hg HFN_4.out)
          have HZ8 := Aside0.mk ((setRow_other zz4 g9 (w.heap.size + 1) (cellsE sq P C sl AY py.length cY false).toArray (by have := HN_4.out; omega)).trans HZ_4.out)
          have HX8 := Aside0.mk (setRow_heap zz4 g9 zE.toArray (cellsE sq P C sl AY py.length cY false).toArray _ _ H9_4.out)
          have HY8 := Aside0.mk (Kd.R_grown HY_4.out hg (fun k hk e => hk.1 (by injection e)))
          have HP8 := Aside0.mk (atC_step HP_4.out (grown_keep hg) (by have := HN_4.out; dsimp only; omega))
          have HFN := HFN_4
          have HN9 := HN_4
          obtain ⟨w8, hw_⟩ : ∃ W_, zz4.setRow g9 (cellsE sq P C sl AY py.length cY false).toArray = W_ := ⟨_, rfl⟩
          rw [hw_] at HL8 HF8 HZ8 HX8 HY8 HP8
          rw [hw_]
          clear hw_ hg
          (refine Shut.out hK _ _ HP8.out (fun hHeld => ?_); clear hK K; (try simp only [Act.put, List.getElem_toArray, List.getElem_cons_zero, List.getElem_cons_succ, List.setIfInBounds_toArray, List.set_cons_zero, List.set_cons_succ]))
          refine wpAnyH_done (by kernel_rfl) ?_ _
          clear hHeld
          go_wp2_with (fail)
          refine (okO w0 _ g st4 HL8.out.1).mono ?_
          rintro e w8b ⟨rfl, rfl⟩
          cases st4 with
          | none =>
            go_wp2_with ((with_reducible refine gate_store (t := 27) (p := 6) (v := .tmp 30) rfl ?_); refine wpList_store_row rfl 27 (.tmp 6) (.tmp 30) rfl (w.heap.size + 1) zE.toArray rfl rfl 27 zE.toArray HZ8.out HZI.out.1 rfl HZI.out.2 ?_)
            have HSR := setRow_heap w8 (w.heap.size + 1) zE.toArray zE.toArray _ _ HZ8.out
            refine bodyPost_ret (results_ct rfl _ _ (w.heap.size + 1) 27 zE.toArray (0, 0) _ rfl HSR Try.underlying27 rfl HZI.out.1) rfl ?_
            rw [HE.out]
            exact ⟨zE, _, rfl, zE_len, HZI.out.2, left_grown HL8.out (below_setRow (Below.refl _ _) (Nat.le_succ _) _) (grown_setRow _ _ _) (fun b e => by injection e with e; subst e; have := HG.out; exact ⟨by omega, by omega⟩) HG.out.2⟩
          | some r4 =>
            obtain ⟨f, hF⟩ := HFS.out r4 rfl
            subst hF
            obtain ⟨ad5, had, hc5⟩ := Rb.at0 HF8.out
            subst had
            have HE := Aside0.mk (show readE st sq pv = if 1 < f then none else if rightT (sq, pv, cm, sl, py, decide (f = 1)) then some ((sq, pv, cm, sl, py, decide (f = 1)), r4) else none from HE.out)
            by_cases h1 : 1 < f
            · have q1 : decide (1 < f) = true := decide_eq_true h1
              have HE := Aside0.mk (show readE st sq pv = none from by rw [HE.out, if_pos h1])
              clear h1
              go_wp2_with ((with_reducible refine gate_store (t := 27) (p := 6) (v := .tmp 30) rfl ?_); refine wpList_store_row rfl 27 (.tmp 6) (.tmp 30) rfl (w.heap.size + 1) zE.toArray rfl rfl 27 zE.toArray HZ8.out HZI.out.1 rfl HZI.out.2 ?_)
              have HSR := setRow_heap w8 (w.heap.size + 1) zE.toArray zE.toArray _ _ HZ8.out
              refine bodyPost_ret (results_ct rfl _ _ (w.heap.size + 1) 27 zE.toArray (0, 0) _ rfl HSR Try.underlying27 rfl HZI.out.1) rfl ?_
              rw [HE.out]
              exact ⟨zE, _, rfl, zE_len, HZI.out.2, left_grown HL8.out (below_setRow (Below.refl _ _) (Nat.le_succ _) _) (grown_setRow _ _ _) (fun b e => by injection e with e; subst e; have := HG.out; exact ⟨by omega, by omega⟩) HG.out.2⟩
            · have q1 : decide (1 < f) = false := decide_eq_false h1
              have HE := Aside0.mk (show readE st sq pv = if rightT (sq, pv, cm, sl, py, decide (f = 1)) then some ((sq, pv, cm, sl, py, decide (f = 1)), r4) else none from by rw [HE.out, if_neg h1])
              clear h1
              by_cases hf : f = 1
              · subst hf
                rw [decide_eq_true rfl] at HE
                have HX9 := Aside0.mk (blk_set HX8.out 67 (.bool true))
                rw [List.setIfInBounds_toArray, set_flag sq sl P C HLP.out.1 HLP.out.2] at HX9
                have HL9 := Aside0.mk (left_grown HL8.out (show Below w.heap.size w8 (w8.setCell ⟨g9, 67, none⟩ (.bool true)) from ⟨rfl, rfl, rfl, by simp [World.setCell], fun k hk => Below.heap_setCell w8 ⟨g9, 67, none⟩ (.bool true) k (by have := HN9.out; dsimp only; omega)⟩) (grown_setCell w8 g9 67 (.bool true)) (fun b_ e => by injection e with e; subst e; have := HG.out; have := HN9.out; exact ⟨by omega, by omega⟩) HG.out.2)
                have HZ9 := Aside0.mk (show (w8.setCell ⟨g9, 67, none⟩ (.bool true)).heap[w.heap.size + 1]? = some (.cells zE.toArray 27 (0, 0)) from (grown_setCell w8 g9 67 (.bool true)).block (w.heap.size + 1) (blk_lt HZ8.out) (fun e => by injection e with e; have := HN9.out; omega) |>.trans HZ8.out)
                have HY9 := Aside0.mk (Kd.R_grown HY8.out (grown_setCell w8 g9 67 (.bool true)) (fun k hk e => hk.1 (by injection e)))
                have c67 : w8.cell? ⟨g9, 67, none⟩ = some (.bool false) := (entAt_blk (x := (sq, pv, cm, sl, py, false)) HLP.out.1 HLP.out.2 HX8.out).r
                have f67 := blk_frozen HX8.out 67
                go_upto_region 6 with (fail)
                obtain ⟨w9, hw_⟩ : ∃ W_, w8.setCell ⟨g9, 67, none⟩ (.bool true) = W_ := ⟨_, rfl⟩
                rw [hw_] at HX9 HL9 HZ9 HY9
                rw [hw_]
                clear hw_
                obtain ⟨m9_, r9_⟩ := (Kd.R_reads' HY9.out).2
                have HC9 := Aside0.mk (show EntC w9 (sq, pv, cm, sl, py, true) P C AY cY from ⟨HPC.out.1, HPC.out.2, m9_, r9_⟩)
                clear m9_ r9_
                have HRT := Aside0.mk (fun V (hV : Below w9.heap.size w9 V) => right1_c (sq, pv, cm, sl, py, true) (HEU.out true) (HPL.out) P C AY cY V (HC9.out.below hV))
                unfold RetB at HRT
                have HA9 := Aside0.mk (atC_blk HX9.out)
                have HAV := Aside0.mk (fun V (hV : Below w9.heap.size w9 V) => HA9.out.below hV)
                have HCL := Aside0.mk (show (Try.prog.info? 27).map (·.size) = some (cellsE sq P C sl AY py.length cY true).length from HC9.out.info)
                have HE2 := Aside0.mk (show readE st sq pv = if rightT (sq, pv, cm, sl, py, true) then some ((sq, pv, cm, sl, py, true), r4) else none from HE.out)
                obtain ⟨rb, hrb⟩ : ∃ t, rightT (sq, pv, cm, sl, py, true) = t := ⟨_, rfl⟩
                rw [hrb] at HRT HE2
                clear hrb
                obtain ⟨X, hX⟩ : ∃ t, cellsE sq P C sl AY py.length cY true = t := ⟨_, rfl⟩
                have HXX := Aside0.mk hX
                have HRT := Aside0.mk (fun V hV => show Calls Try.prog 54 #[.agg (cellsE sq P C sl AY py.length cY true).toArray] V _ from HRT.out V hV)
                rw [hX] at HX9 HA9 HAV HCL HRT
                have HXO := Aside0.mk (show X.toArray.all (·.oneCell') = true from by rw [← HXX.out]; exact HC9.out.one)
                clear hX
                refine wp_region_held_drew (S := fun V => AtC V ⟨g9, 0, none⟩ X) (by kernel_rfl) (HAV.out _ (below_drew1 (Below.refl _ _))) (fun hHeld => ?_)
                (refine wpAnyH_take (i := 0) rfl (by kernel_rfl) (by kernel_rfl) (by kernel_rfl) (fun _ _ _ h => h) (yieldsIf_load_at (by rfl) _ _ rfl ⟨g9, 0, none⟩ rfl X _ (fun _ h => h) (by assumption) rfl HCL.out) (by assumption) ?_; (try simp only [Act.put, List.getElem_toArray, List.getElem_cons_zero, List.getElem_cons_succ, List.setIfInBounds_toArray, List.set_cons_zero, List.set_cons_succ]))
                (refine wpAnyH_take (i := 1) rfl (by kernel_rfl) (by kernel_rfl) (by kernel_rfl) (fun _ _ _ h => h) (yieldsIf_load_at (by rfl) _ _ rfl ⟨g9, 0, none⟩ rfl X _ (fun _ h => h) (by assumption) rfl HCL.out) (by assumption) ?_; (try simp only [Act.put, List.getElem_toArray, List.getElem_cons_zero, List.getElem_cons_succ, List.setIfInBounds_toArray, List.set_cons_zero, List.set_cons_succ]))
                (refine wpAnyH_ready (rs := [2]) (by kernel_rfl) (by simp) (AllReadyH.cons rfl (fun K hK => ?_) AllReadyH.nil); go_simp)
                refine (HRT.out _ (below_drew1 (Below.refl _ _))).mono ?_
                rintro e wa ⟨rfl, hb⟩
                have hb2 := below_drew_of hb
                have HLa := Aside0.mk (left_below HL9.out hb2)
                have HZa := Aside0.mk (blk_below HZ9.out hb2)
                have HYa := Aside0.mk (Kd.R_below HY9.out hb2)
                have HAa := Aside0.mk (HA9.out.below hb2)
                clear hb hb2
                (refine Shut.out hK _ _ HAa.out (fun hHeld => ?_); clear hK K; (try simp only [Act.put, List.getElem_toArray, List.getElem_cons_zero, List.getElem_cons_succ, List.setIfInBounds_toArray, List.set_cons_zero, List.set_cons_succ]))
                refine wpAnyH_ready (rs := [3]) (by kernel_rfl) (by simp) (AllReadyH.cons rfl (fun K hK => ?_) AllReadyH.nil)
                rw [if_pos (by rfl)]
                refine wp_store_row 27 (.tmp 6) (.tmp 36) rfl (w.heap.size + 1) X.toArray rfl rfl 27 zE.toArray HZa.out (by rw [List.size_toArray]; exact HCL.out) (by rw [List.size_toArray, List.size_toArray, zE_len]; have h := HCL.out; rw [info_ent] at h; injection h) HXO.out ?_
                have hg := grown_setRow wa (w.heap.size + 1) X.toArray
                have HSR := Aside0.mk (setRow_heap wa (w.heap.size + 1) zE.toArray X.toArray _ _ HZa.out)
                have HLb := Aside0.mk (left_grown HLa.out (below_setRow (Below.refl _ _) (Nat.le_succ _) _) hg (fun b_ e => by injection e with e; subst e; have := HG.out; exact ⟨by omega, by omega⟩) HG.out.2)
                have HYb := Aside0.mk (Kd.R_grown HYa.out hg (fun k hk e => hk.2 (by injection e)))
                have HAb := Aside0.mk (atC_step HAa.out (grown_keep hg) (by have := HN9.out; dsimp only; omega))
                obtain ⟨wb, hw_⟩ : ∃ W_, wa.setRow (w.heap.size + 1) X.toArray = W_ := ⟨_, rfl⟩
                rw [hw_] at HSR HLb HYb HAb
                rw [hw_]
                clear hw_ hg
                (refine Shut.out hK _ _ HAb.out (fun hHeld => ?_); clear hK K; (try simp only [Act.put, List.getElem_toArray, List.getElem_cons_zero, List.getElem_cons_succ, List.setIfInBounds_toArray, List.set_cons_zero, List.set_cons_succ]))
                (refine wpAnyH_take (i := 4) (v := ?_) rfl (by kernel_rfl) (by kernel_rfl) (by kernel_rfl) (fun _ _ _ h => h) (Or.inl ⟨by rfl, ?_⟩) (by assumption) ?_; (case' refine_2 => (intro w hSw; go_simp; try with_reducible rfl)); (try simp only [Act.put, List.getElem_toArray, List.getElem_cons_zero, List.getElem_cons_succ, List.setIfInBounds_toArray, List.set_cons_zero, List.set_cons_succ]))
                refine wpAnyH_done (by kernel_rfl) ?_ _
                go_wp2_with (fail)
                refine bodyPost_ret (results_ct rfl _ _ (w.heap.size + 1) 27 X.toArray (0, 0) _ rfl HSR.out Try.underlying27 rfl (by rw [List.size_toArray]; exact HCL.out)) rfl ?_
                rw [HE2.out]
                cases rb with
                | true =>
                  rw [if_pos rfl]
                  obtain ⟨_, m9_, r9_⟩ := Kd.R_reads' HYb.out
                  exact ⟨P, C, AY, cY, by rw [← HXX.out]; first | done | rfl, ⟨HPC.out.1, HPC.out.2, m9_, r9_⟩, Kd.R_mono HYb.out (fun _ _ => trivial), HLb.out⟩
                | false =>
                  rw [if_neg Bool.false_ne_true]
                  exact ⟨X, _, rfl, by have h := HCL.out; rw [info_ent] at h; injection h with h; exact h.symm, HXO.out, HLb.out⟩
              · have q2 : (f == 1) = false := by simp [hf]
                rw [decide_eq_false hf] at HE
                clear hf
                have HX9 := Aside0.mk (blk_set HX8.out 67 (.bool false))
                rw [List.setIfInBounds_toArray, set_flag sq sl P C HLP.out.1 HLP.out.2] at HX9
                have HL9 := Aside0.mk (left_grown HL8.out (show Below w.heap.size w8 (w8.setCell ⟨g9, 67, none⟩ (.bool false)) from ⟨rfl, rfl, rfl, by simp [World.setCell], fun k hk => Below.heap_setCell w8 ⟨g9, 67, none⟩ (.bool false) k (by have := HN9.out; dsimp only; omega)⟩) (grown_setCell w8 g9 67 (.bool false)) (fun b_ e => by injection e with e; subst e; have := HG.out; have := HN9.out; exact ⟨by omega, by omega⟩) HG.out.2)
                have HZ9 := Aside0.mk (show (w8.setCell ⟨g9, 67, none⟩ (.bool false)).heap[w.heap.size + 1]? = some (.cells zE.toArray 27 (0, 0)) from (grown_setCell w8 g9 67 (.bool false)).block (w.heap.size + 1) (blk_lt HZ8.out) (fun e => by injection e with e; have := HN9.out; omega) |>.trans HZ8.out)
                have HY9 := Aside0.mk (Kd.R_grown HY8.out (grown_setCell w8 g9 67 (.bool false)) (fun k hk e => hk.1 (by injection e)))
                have c67 : w8.cell? ⟨g9, 67, none⟩ = some (.bool false) := (entAt_blk (x := (sq, pv, cm, sl, py, false)) HLP.out.1 HLP.out.2 HX8.out).r
                have f67 := blk_frozen HX8.out 67
                go_upto_region 6 with (fail)
                obtain ⟨w9, hw_⟩ : ∃ W_, w8.setCell ⟨g9, 67, none⟩ (.bool false) = W_ := ⟨_, rfl⟩
                rw [hw_] at HX9 HL9 HZ9 HY9
                rw [hw_]
                clear hw_
                obtain ⟨m9_, r9_⟩ := (Kd.R_reads' HY9.out).2
                have HC9 := Aside0.mk (show EntC w9 (sq, pv, cm, sl, py, false) P C AY cY from ⟨HPC.out.1, HPC.out.2, m9_, r9_⟩)
                clear m9_ r9_
                have HRT := Aside0.mk (fun V (hV : Below w9.heap.size w9 V) => right1_c (sq, pv, cm, sl, py, false) (HEU.out false) (HPL.out) P C AY cY V (HC9.out.below hV))
                unfold RetB at HRT
                have HA9 := Aside0.mk (atC_blk HX9.out)
                have HAV := Aside0.mk (fun V (hV : Below w9.heap.size w9 V) => HA9.out.below hV)
                have HCL := Aside0.mk (show (Try.prog.info? 27).map (·.size) = some (cellsE sq P C sl AY py.length cY false).length from HC9.out.info)
                have HE2 := Aside0.mk (show readE st sq pv = if rightT (sq, pv, cm, sl, py, false) then some ((sq, pv, cm, sl, py, false), r4) else none from HE.out)
                obtain ⟨rb, hrb⟩ : ∃ t, rightT (sq, pv, cm, sl, py, false) = t := ⟨_, rfl⟩
                rw [hrb] at HRT HE2
                clear hrb
                obtain ⟨X, hX⟩ : ∃ t, cellsE sq P C sl AY py.length cY false = t := ⟨_, rfl⟩
                have HXX := Aside0.mk hX
                have HRT := Aside0.mk (fun V hV => show Calls Try.prog 54 #[.agg (cellsE sq P C sl AY py.length cY false).toArray] V _ from HRT.out V hV)
                rw [hX] at HX9 HA9 HAV HCL HRT
                have HXO := Aside0.mk (show X.toArray.all (·.oneCell') = true from by rw [← HXX.out]; exact HC9.out.one)
                clear hX
                refine wp_region_held_drew (S := fun V => AtC V ⟨g9, 0, none⟩ X) (by kernel_rfl) (HAV.out _ (below_drew1 (Below.refl _ _))) (fun hHeld => ?_)
                (refine wpAnyH_take (i := 0) rfl (by kernel_rfl) (by kernel_rfl) (by kernel_rfl) (fun _ _ _ h => h) (yieldsIf_load_at (by rfl) _ _ rfl ⟨g9, 0, none⟩ rfl X _ (fun _ h => h) (by assumption) rfl HCL.out) (by assumption) ?_; (try simp only [Act.put, List.getElem_toArray, List.getElem_cons_zero, List.getElem_cons_succ, List.setIfInBounds_toArray, List.set_cons_zero, List.set_cons_succ]))
                (refine wpAnyH_take (i := 1) rfl (by kernel_rfl) (by kernel_rfl) (by kernel_rfl) (fun _ _ _ h => h) (yieldsIf_load_at (by rfl) _ _ rfl ⟨g9, 0, none⟩ rfl X _ (fun _ h => h) (by assumption) rfl HCL.out) (by assumption) ?_; (try simp only [Act.put, List.getElem_toArray, List.getElem_cons_zero, List.getElem_cons_succ, List.setIfInBounds_toArray, List.set_cons_zero, List.set_cons_succ]))
                (refine wpAnyH_ready (rs := [2]) (by kernel_rfl) (by simp) (AllReadyH.cons rfl (fun K hK => ?_) AllReadyH.nil); go_simp)
                refine (HRT.out _ (below_drew1 (Below.refl _ _))).mono ?_
                rintro e wa ⟨rfl, hb⟩
                have hb2 := below_drew_of hb
                have HLa := Aside0.mk (left_below HL9.out hb2)
                have HZa := Aside0.mk (blk_below HZ9.out hb2)
                have HYa := Aside0.mk (Kd.R_below HY9.out hb2)
                have HAa := Aside0.mk (HA9.out.below hb2)
                clear hb hb2
                (refine Shut.out hK _ _ HAa.out (fun hHeld => ?_); clear hK K; (try simp only [Act.put, List.getElem_toArray, List.getElem_cons_zero, List.getElem_cons_succ, List.setIfInBounds_toArray, List.set_cons_zero, List.set_cons_succ]))
                refine wpAnyH_ready (rs := [3]) (by kernel_rfl) (by simp) (AllReadyH.cons rfl (fun K hK => ?_) AllReadyH.nil)
                rw [if_pos (by rfl)]
                refine wp_store_row 27 (.tmp 6) (.tmp 36) rfl (w.heap.size + 1) X.toArray rfl rfl 27 zE.toArray HZa.out (by rw [List.size_toArray]; exact HCL.out) (by rw [List.size_toArray, List.size_toArray, zE_len]; have h := HCL.out; rw [info_ent] at h; injection h) HXO.out ?_
                have hg := grown_setRow wa (w.heap.size + 1) X.toArray
                have HSR := Aside0.mk (setRow_heap wa (w.heap.size + 1) zE.toArray X.toArray _ _ HZa.out)
                have HLb := Aside0.mk (left_grown HLa.out (below_setRow (Below.refl _ _) (Nat.le_succ _) _) hg (fun b_ e => by injection e with e; subst e; have := HG.out; exact ⟨by omega, by omega⟩) HG.out.2)
                have HYb := Aside0.mk (Kd.R_grown HYa.out hg (fun k hk e => hk.2 (by injection e)))
                have HAb := Aside0.mk (atC_step HAa.out (grown_keep hg) (by have := HN9.out; dsimp only; omega))
                obtain ⟨wb, hw_⟩ : ∃ W_, wa.setRow (w.heap.size + 1) X.toArray = W_ := ⟨_, rfl⟩
                rw [hw_] at HSR HLb HYb HAb
                rw [hw_]
                clear hw_ hg
                (refine Shut.out hK _ _ HAb.out (fun hHeld => ?_); clear hK K; (try simp only [Act.put, List.getElem_toArray, List.getElem_cons_zero, List.getElem_cons_succ, List.setIfInBounds_toArray, List.set_cons_zero, List.set_cons_succ]))
                (refine wpAnyH_take (i := 4) (v := ?_) rfl (by kernel_rfl) (by kernel_rfl) (by kernel_rfl) (fun _ _ _ h => h) (Or.inl ⟨by rfl, ?_⟩) (by assumption) ?_; (case' refine_2 => (intro w hSw; go_simp; try with_reducible rfl)); (try simp only [Act.put, List.getElem_toArray, List.getElem_cons_zero, List.getElem_cons_succ, List.setIfInBounds_toArray, List.set_cons_zero, List.set_cons_succ]))
                refine wpAnyH_done (by kernel_rfl) ?_ _
                go_wp2_with (fail)
                refine bodyPost_ret (results_ct rfl _ _ (w.heap.size + 1) 27 X.toArray (0, 0) _ rfl HSR.out Try.underlying27 rfl (by rw [List.size_toArray]; exact HCL.out)) rfl ?_
                rw [HE2.out]
                cases rb with
                | true =>
                  rw [if_pos rfl]
                  obtain ⟨_, m9_, r9_⟩ := Kd.R_reads' HYb.out
                  exact ⟨P, C, AY, cY, by rw [← HXX.out]; first | done | rfl, ⟨HPC.out.1, HPC.out.2, m9_, r9_⟩, Kd.R_mono HYb.out (fun _ _ => trivial), HLb.out⟩
                | false =>
                  rw [if_neg Bool.false_ne_true]
                  exact ⟨X, _, rfl, by have h := HCL.out; rw [info_ent] at h; injection h with h; exact h.symm, HXO.out, HLb.out⟩
      · rw [if_pos (by rfl)]
        refine wp_alloc_e rfl ?_
        have hb := (below_alloc (Below.refl zz2.heap.size zz2) (.cells zE.toArray 27))
        have H9_6 := Aside0.mk (show (zz2.alloc (.cells zE.toArray 27)).heap[zz2.heap.size]? = some (.cells zE.toArray 27 (0, 0)) from blk_new _ _)
        have HL_6 := Aside0.mk (left_below HL_2.out hb)
        have HF_6 := Aside0.mk (show Rb (zz2.alloc (.cells zE.toArray 27)) A5 F from Kd.C_below HF_2.out hb)
        have HFN_6 := Aside0.mk (show ∀ ad, A5 = some ad → ad.block ≠ zz2.heap.size from fun ad e => Nat.ne_of_lt (HFB_2.out ad e))
        have HP_6 := Aside0.mk (HP_2.out.below hb)
        have HZ_6 := Aside0.mk (blk_below HZ_2.out hb)
        have HN_6 := Aside0.mk (show w.heap.size + 1 < zz2.heap.size from blk_lt HZ_2.out)
        obtain ⟨zz6, hw_⟩ : ∃ W_, zz2.alloc (.cells zE.toArray 27) = W_ := ⟨_, rfl⟩
        obtain ⟨g9, hg_⟩ : ∃ g_, zz2.heap.size = g_ := ⟨_, rfl⟩
        clear hb
        rw [hw_, hg_] at H9_6
        rw [hg_] at HFN_6 HN_6
        rw [hw_] at HL_6 HF_6 HP_6 HZ_6
        rw [hw_, hg_]
        clear hw_ hg_
        (refine Shut.out hK _ _ HP_6.out (fun hHeld => ?_); clear hK K; (try simp only [Act.put, List.getElem_toArray, List.getElem_cons_zero, List.getElem_cons_succ, List.setIfInBounds_toArray, List.set_cons_zero, List.set_cons_succ]))
        refine wpAnyH_ready (rs := [7]) (by kernel_rfl) (by simp) (AllReadyH.cons rfl (fun K hK => ?_) AllReadyH.nil)
        · go_simp
          refine (HTXT.out _ HL_6.out).mono ?_
          rintro e zz7 ⟨v, rfl, ho, hl⟩
          obtain ⟨AY, cY, rfl⟩ := Kd.R_slice ho
          have HL_7 := Aside0.mk (HL_6.out.trans hl)
          have HF_7 := Aside0.mk (rb_step HF_6.out HL_6.out.1 hl.2.2)
          have HP_7 := Aside0.mk (atC_step HP_6.out hl.2.2 (by have := HG.out.1; dsimp only; omega))
          have HZ_7 := Aside0.mk (hl.2.2.blk HZ_6.out (by have := HG.out.1; omega) (by simp))
          have H9_7 := Aside0.mk (hl.2.2.blk H9_6.out (by have := HG.out.1; have := HN_6.out; omega) (by simp))
          have HY_7 := Aside0.mk (show Kd.R (Kd.int .u8) 5 zz7 w.heap.size (fun k => k ≠ g9 ∧ k ≠ w.heap.size + 1) (.slice AY py.length cY) py from
            Kd.R_lower (Kd.R_mono (Kd.R_bound ho) (fun k hk => by have h1 := hk.2.1; have h2 := blk_lt H9_6.out; have h3 := blk_lt HZ_6.out; exact ⟨by omega, by omega⟩)) HL_6.out.2.2.1)
          clear hl ho
          (refine Shut.out hK _ _ HP_7.out (fun hHeld => ?_); clear hK K; (try simp only [Act.put, List.getElem_toArray, List.getElem_cons_zero, List.getElem_cons_succ, List.setIfInBounds_toArray, List.set_cons_zero, List.set_cons_succ]))
          (refine wpAnyH_take (i := 8) rfl (by kernel_rfl) (by kernel_rfl) (by kernel_rfl) (fun _ _ _ h => h) (yieldsIf_new (by rfl) (.tmp 12) (.tmp 13) (.tmp 15) (.tmp 17) (.tmp 19) rfl sq sl P C HLP.out.1 HLP.out.2 AY py.length cY rfl rfl rfl rfl rfl) (by assumption) ?_; (try simp only [Act.put, List.getElem_toArray, List.getElem_cons_zero, List.getElem_cons_succ, List.setIfInBounds_toArray, List.set_cons_zero, List.set_cons_succ]))
          refine wpAnyH_ready (rs := [10]) (by kernel_rfl) (by simp) (AllReadyH.cons rfl (fun K hK => ?_) AllReadyH.nil)
          rw [if_pos (by rfl)]
          refine wp_store_row 27 (.tmp 9) (.tmp 20) rfl g9 (cellsE sq P C sl AY py.length cY false).toArray rfl rfl 27 zE.toArray H9_7.out (HCI.out _ _ _).1 (HCI.out _ _ _).2.1 (HCI.out _ _ _).2.2 ?_
          have hg := grown_setRow zz7 g9 (cellsE sq P C sl AY py.length cY false).toArray
          have HL8 := Aside0.mk (left_grown HL_7.out (below_setRow (Below.refl _ _) (by have := HN_6.out; omega) _) hg (fun b e => by injection e with e; subst e; have := HN_6.out; have := HG.out; exact ⟨by omega, by omega⟩) HG.out.2)
          have HF8 := Aside0.mk (rb_row HF_7.out hg HFN_6.out)
          have HZ8 := Aside0.mk ((setRow_other zz7 g9 (w.heap.size + 1) (cellsE sq P C sl AY py.length cY false).toArray (by have := HN_6.out; omega)).trans HZ_7.out)
          have HX8 := Aside0.mk (setRow_heap zz7 g9 zE.toArray (cellsE sq P C sl AY py.length cY false).toArray _ _ H9_7.out)
          have HY8 := Aside0.mk (Kd.R_grown HY_7.out hg (fun k hk e => hk.1 (by injection e)))
          have HP8 := Aside0.mk (atC_step HP_7.out (grown_keep hg) (by have := HN_6.out; dsimp only; omega))
          have HFN := HFN_6
          have HN9 := HN_6
          obtain ⟨w8, hw_⟩ : ∃ W_, zz7.setRow g9 (cellsE sq P C sl AY py.length cY false).toArray = W_ := ⟨_, rfl⟩
          rw [hw_] at HL8 HF8 HZ8 HX8 HY8 HP8
          rw [hw_]
          clear hw_ hg
          (refine Shut.out hK _ _ HP8.out (fun hHeld => ?_); clear hK K; (try simp only [Act.put, List.getElem_toArray, List.getElem_cons_zero, List.getElem_cons_succ, List.setIfInBounds_toArray, List.set_cons_zero, List.set_cons_succ]))
          refine wpAnyH_done (by kernel_rfl) ?_ _
          clear hHeld
          go_wp2_with (fail)
          refine (okO w0 _ g st4 HL8.out.1).mono ?_
          rintro e w8b ⟨rfl, rfl⟩
          cases st4 with
          | none =>
            go_wp2_with ((with_reducible refine gate_store (t := 27) (p := 6) (v := .tmp 30) rfl ?_); refine wpList_store_row rfl 27 (.tmp 6) (.tmp 30) rfl (w.heap.size + 1) zE.toArray rfl rfl 27 zE.toArray HZ8.out HZI.out.1 rfl HZI.out.2 ?_)
            have HSR := setRow_heap w8 (w.heap.size + 1) zE.toArray zE.toArray _ _ HZ8.out
            refine bodyPost_ret (results_ct rfl _ _ (w.heap.size + 1) 27 zE.toArray (0, 0) _ rfl HSR Try.underlying27 rfl HZI.out.1) rfl ?_
            rw [HE.out]
            exact ⟨zE, _, rfl, zE_len, HZI.out.2, left_grown HL8.out (below_setRow (Below.refl _ _) (Nat.le_succ _) _) (grown_setRow _ _ _) (fun b e => by injection e with e; subst e; have := HG.out; exact ⟨by omega, by omega⟩) HG.out.2⟩
          | some r4 =>
            obtain ⟨f, hF⟩ := HFS.out r4 rfl
            subst hF
            obtain ⟨ad5, had, hc5⟩ := Rb.at0 HF8.out
            subst had
            have HE := Aside0.mk (show readE st sq pv = if 1 < f then none else if rightT (sq, pv, cm, sl, py, decide (f = 1)) then some ((sq, pv, cm, sl, py, decide (f = 1)), r4) else none from HE.out)
            by_cases h1 : 1 < f
            · have q1 : decide (1 < f) = true := decide_eq_true h1
              have HE := Aside0.mk (show readE st sq pv = none from by rw [HE.out, if_pos h1])
              clear h1
              go_wp2_with ((with_reducible refine gate_store (t := 27) (p := 6) (v := .tmp 30) rfl ?_); refine wpList_store_row rfl 27 (.tmp 6) (.tmp 30) rfl (w.heap.size + 1) zE.toArray rfl rfl 27 zE.toArray HZ8.out HZI.out.1 rfl HZI.out.2 ?_)
              have HSR := setRow_heap w8 (w.heap.size + 1) zE.toArray zE.toArray _ _ HZ8.out
              refine bodyPost_ret (results_ct rfl _ _ (w.heap.size + 1) 27 zE.toArray (0, 0) _ rfl HSR Try.underlying27 rfl HZI.out.1) rfl ?_
              rw [HE.out]
              exact ⟨zE, _, rfl, zE_len, HZI.out.2, left_grown HL8.out (below_setRow (Below.refl _ _) (Nat.le_succ _) _) (grown_setRow _ _ _) (fun b e => by injection e with e; subst e; have := HG.out; exact ⟨by omega, by omega⟩) HG.out.2⟩
            · have q1 : decide (1 < f) = false := decide_eq_false h1
              have HE := Aside0.mk (show readE st sq pv = if rightT (sq, pv, cm, sl, py, decide (f = 1)) then some ((sq, pv, cm, sl, py, decide (f = 1)), r4) else none from by rw [HE.out, if_neg h1])
              clear h1
              by_cases hf : f = 1
              · subst hf
                rw [decide_eq_true rfl] at HE
                have HX9 := Aside0.mk (blk_set HX8.out 67 (.bool true))
                rw [List.setIfInBounds_toArray, set_flag sq sl P C HLP.out.1 HLP.out.2] at HX9
                have HL9 := Aside0.mk (left_grown HL8.out (show Below w.heap.size w8 (w8.setCell ⟨g9, 67, none⟩ (.bool true)) from ⟨rfl, rfl, rfl, by simp [World.setCell], fun k hk => Below.heap_setCell w8 ⟨g9, 67, none⟩ (.bool true) k (by have := HN9.out; dsimp only; omega)⟩) (grown_setCell w8 g9 67 (.bool true)) (fun b_ e => by injection e with e; subst e; have := HG.out; have := HN9.out; exact ⟨by omega, by omega⟩) HG.out.2)
                have HZ9 := Aside0.mk (show (w8.setCell ⟨g9, 67, none⟩ (.bool true)).heap[w.heap.size + 1]? = some (.cells zE.toArray 27 (0, 0)) from (grown_setCell w8 g9 67 (.bool true)).block (w.heap.size + 1) (blk_lt HZ8.out) (fun e => by injection e with e; have := HN9.out; omega) |>.trans HZ8.out)
                have HY9 := Aside0.mk (Kd.R_grown HY8.out (grown_setCell w8 g9 67 (.bool true)) (fun k hk e => hk.1 (by injection e)))
                have c67 : w8.cell? ⟨g9, 67, none⟩ = some (.bool false) := (entAt_blk (x := (sq, pv, cm, sl, py, false)) HLP.out.1 HLP.out.2 HX8.out).r
                have f67 := blk_frozen HX8.out 67
                go_upto_region 6 with (fail)
                obtain ⟨w9, hw_⟩ : ∃ W_, w8.setCell ⟨g9, 67, none⟩ (.bool true) = W_ := ⟨_, rfl⟩
                rw [hw_] at HX9 HL9 HZ9 HY9
                rw [hw_]
                clear hw_
                obtain ⟨m9_, r9_⟩ := (Kd.R_reads' HY9.out).2
                have HC9 := Aside0.mk (show EntC w9 (sq, pv, cm, sl, py, true) P C AY cY from ⟨HPC.out.1, HPC.out.2, m9_, r9_⟩)
                clear m9_ r9_
                have HRT := Aside0.mk (fun V (hV : Below w9.heap.size w9 V) => right1_c (sq, pv, cm, sl, py, true) (HEU.out true) (HPL.out) P C AY cY V (HC9.out.below hV))
                unfold RetB at HRT
                have HA9 := Aside0.mk (atC_blk HX9.out)
                have HAV := Aside0.mk (fun V (hV : Below w9.heap.size w9 V) => HA9.out.below hV)
                have HCL := Aside0.mk (show (Try.prog.info? 27).map (·.size) = some (cellsE sq P C sl AY py.length cY true).length from HC9.out.info)
                have HE2 := Aside0.mk (show readE st sq pv = if rightT (sq, pv, cm, sl, py, true) then some ((sq, pv, cm, sl, py, true), r4) else none from HE.out)
                obtain ⟨rb, hrb⟩ : ∃ t, rightT (sq, pv, cm, sl, py, true) = t := ⟨_, rfl⟩
                rw [hrb] at HRT HE2
                clear hrb
                obtain ⟨X, hX⟩ : ∃ t, cellsE sq P C sl AY py.length cY true = t := ⟨_, rfl⟩
                have HXX := Aside0.mk hX
                have HRT := Aside0.mk (fun V hV => show Calls Try.prog 54 #[.agg (cellsE sq P C sl AY py.length cY true).toArray] V _ from HRT.out V hV)
                rw [hX] at HX9 HA9 HAV HCL HRT
                have HXO := Aside0.mk (show X.toArray.all (·.oneCell') = true from by rw [← HXX.out]; exact HC9.out.one)
                clear hX
                refine wp_region_held_drew (S := fun V => AtC V ⟨g9, 0, none⟩ X) (by kernel_rfl) (HAV.out _ (below_drew1 (Below.refl _ _))) (fun hHeld => ?_)
                (refine wpAnyH_take (i := 0) rfl (by kernel_rfl) (by kernel_rfl) (by kernel_rfl) (fun _ _ _ h => h) (yieldsIf_load_at (by rfl) _ _ rfl ⟨g9, 0, none⟩ rfl X _ (fun _ h => h) (by assumption) rfl HCL.out) (by assumption) ?_; (try simp only [Act.put, List.getElem_toArray, List.getElem_cons_zero, List.getElem_cons_succ, List.setIfInBounds_toArray, List.set_cons_zero, List.set_cons_succ]))
                (refine wpAnyH_take (i := 1) rfl (by kernel_rfl) (by kernel_rfl) (by kernel_rfl) (fun _ _ _ h => h) (yieldsIf_load_at (by rfl) _ _ rfl ⟨g9, 0, none⟩ rfl X _ (fun _ h => h) (by assumption) rfl HCL.out) (by assumption) ?_; (try simp only [Act.put, List.getElem_toArray, List.getElem_cons_zero, List.getElem_cons_succ, List.setIfInBounds_toArray, List.set_cons_zero, List.set_cons_succ]))
                (refine wpAnyH_ready (rs := [2]) (by kernel_rfl) (by simp) (AllReadyH.cons rfl (fun K hK => ?_) AllReadyH.nil); go_simp)
                refine (HRT.out _ (below_drew1 (Below.refl _ _))).mono ?_
                rintro e wa ⟨rfl, hb⟩
                have hb2 := below_drew_of hb
                have HLa := Aside0.mk (left_below HL9.out hb2)
                have HZa := Aside0.mk (blk_below HZ9.out hb2)
                have HYa := Aside0.mk (Kd.R_below HY9.out hb2)
                have HAa := Aside0.mk (HA9.out.below hb2)
                clear hb hb2
                (refine Shut.out hK _ _ HAa.out (fun hHeld => ?_); clear hK K; (try simp only [Act.put, List.getElem_toArray, List.getElem_cons_zero, List.getElem_cons_succ, List.setIfInBounds_toArray, List.set_cons_zero, List.set_cons_succ]))
                refine wpAnyH_ready (rs := [3]) (by kernel_rfl) (by simp) (AllReadyH.cons rfl (fun K hK => ?_) AllReadyH.nil)
                rw [if_pos (by rfl)]
                refine wp_store_row 27 (.tmp 6) (.tmp 36) rfl (w.heap.size + 1) X.toArray rfl rfl 27 zE.toArray HZa.out (by rw [List.size_toArray]; exact HCL.out) (by rw [List.size_toArray, List.size_toArray, zE_len]; have h := HCL.out; rw [info_ent] at h; injection h) HXO.out ?_
                have hg := grown_setRow wa (w.heap.size + 1) X.toArray
                have HSR := Aside0.mk (setRow_heap wa (w.heap.size + 1) zE.toArray X.toArray _ _ HZa.out)
                have HLb := Aside0.mk (left_grown HLa.out (below_setRow (Below.refl _ _) (Nat.le_succ _) _) hg (fun b_ e => by injection e with e; subst e; have := HG.out; exact ⟨by omega, by omega⟩) HG.out.2)
                have HYb := Aside0.mk (Kd.R_grown HYa.out hg (fun k hk e => hk.2 (by injection e)))
                have HAb := Aside0.mk (atC_step HAa.out (grown_keep hg) (by have := HN9.out; dsimp only; omega))
                obtain ⟨wb, hw_⟩ : ∃ W_, wa.setRow (w.heap.size + 1) X.toArray = W_ := ⟨_, rfl⟩
                rw [hw_] at HSR HLb HYb HAb
                rw [hw_]
                clear hw_ hg
                (refine Shut.out hK _ _ HAb.out (fun hHeld => ?_); clear hK K; (try simp only [Act.put, List.getElem_toArray, List.getElem_cons_zero, List.getElem_cons_succ, List.setIfInBounds_toArray, List.set_cons_zero, List.set_cons_succ]))
                (refine wpAnyH_take (i := 4) (v := ?_) rfl (by kernel_rfl) (by kernel_rfl) (by kernel_rfl) (fun _ _ _ h => h) (Or.inl ⟨by rfl, ?_⟩) (by assumption) ?_; (case' refine_2 => (intro w hSw; go_simp; try with_reducible rfl)); (try simp only [Act.put, List.getElem_toArray, List.getElem_cons_zero, List.getElem_cons_succ, List.setIfInBounds_toArray, List.set_cons_zero, List.set_cons_succ]))
                refine wpAnyH_done (by kernel_rfl) ?_ _
                go_wp2_with (fail)
                refine bodyPost_ret (results_ct rfl _ _ (w.heap.size + 1) 27 X.toArray (0, 0) _ rfl HSR.out Try.underlying27 rfl (by rw [List.size_toArray]; exact HCL.out)) rfl ?_
                rw [HE2.out]
                cases rb with
                | true =>
                  rw [if_pos rfl]
                  obtain ⟨_, m9_, r9_⟩ := Kd.R_reads' HYb.out
                  exact ⟨P, C, AY, cY, by rw [← HXX.out]; first | done | rfl, ⟨HPC.out.1, HPC.out.2, m9_, r9_⟩, Kd.R_mono HYb.out (fun _ _ => trivial), HLb.out⟩
                | false =>
                  rw [if_neg Bool.false_ne_true]
                  exact ⟨X, _, rfl, by have h := HCL.out; rw [info_ent] at h; injection h with h; exact h.symm, HXO.out, HLb.out⟩
              · have q2 : (f == 1) = false := by simp [hf]
                rw [decide_eq_false hf] at HE
                clear hf
                have HX9 := Aside0.mk (blk_set HX8.out 67 (.bool false))
                rw [List.setIfInBounds_toArray, set_flag sq sl P C HLP.out.1 HLP.out.2] at HX9
                have HL9 := Aside0.mk (left_grown HL8.out (show Below w.heap.size w8 (w8.setCell ⟨g9, 67, none⟩ (.bool false)) from ⟨rfl, rfl, rfl, by simp [World.setCell], fun k hk => Below.heap_setCell w8 ⟨g9, 67, none⟩ (.bool false) k (by have := HN9.out; dsimp only; omega)⟩) (grown_setCell w8 g9 67 (.bool false)) (fun b_ e => by injection e with e; subst e; have := HG.out; have := HN9.out; exact ⟨by omega, by omega⟩) HG.out.2)
                have HZ9 := Aside0.mk (show (w8.setCell ⟨g9, 67, none⟩ (.bool false)).heap[w.heap.size + 1]? = some (.cells zE.toArray 27 (0, 0)) from (grown_setCell w8 g9 67 (.bool false)).block (w.heap.size + 1) (blk_lt HZ8.out) (fun e => by injection e with e; have := HN9.out; omega) |>.trans HZ8.out)
                have HY9 := Aside0.mk (Kd.R_grown HY8.out (grown_setCell w8 g9 67 (.bool false)) (fun k hk e => hk.1 (by injection e)))
                have c67 : w8.cell? ⟨g9, 67, none⟩ = some (.bool false) := (entAt_blk (x := (sq, pv, cm, sl, py, false)) HLP.out.1 HLP.out.2 HX8.out).r
                have f67 := blk_frozen HX8.out 67
                go_upto_region 6 with (fail)
                obtain ⟨w9, hw_⟩ : ∃ W_, w8.setCell ⟨g9, 67, none⟩ (.bool false) = W_ := ⟨_, rfl⟩
                rw [hw_] at HX9 HL9 HZ9 HY9
                rw [hw_]
                clear hw_
                obtain ⟨m9_, r9_⟩ := (Kd.R_reads' HY9.out).2
                have HC9 := Aside0.mk (show EntC w9 (sq, pv, cm, sl, py, false) P C AY cY from ⟨HPC.out.1, HPC.out.2, m9_, r9_⟩)
                clear m9_ r9_
                have HRT := Aside0.mk (fun V (hV : Below w9.heap.size w9 V) => right1_c (sq, pv, cm, sl, py, false) (HEU.out false) (HPL.out) P C AY cY V (HC9.out.below hV))
                unfold RetB at HRT
                have HA9 := Aside0.mk (atC_blk HX9.out)
                have HAV := Aside0.mk (fun V (hV : Below w9.heap.size w9 V) => HA9.out.below hV)
                have HCL := Aside0.mk (show (Try.prog.info? 27).map (·.size) = some (cellsE sq P C sl AY py.length cY false).length from HC9.out.info)
                have HE2 := Aside0.mk (show readE st sq pv = if rightT (sq, pv, cm, sl, py, false) then some ((sq, pv, cm, sl, py, false), r4) else none from HE.out)
                obtain ⟨rb, hrb⟩ : ∃ t, rightT (sq, pv, cm, sl, py, false) = t := ⟨_, rfl⟩
                rw [hrb] at HRT HE2
                clear hrb
                obtain ⟨X, hX⟩ : ∃ t, cellsE sq P C sl AY py.length cY false = t := ⟨_, rfl⟩
                have HXX := Aside0.mk hX
                have HRT := Aside0.mk (fun V hV => show Calls Try.prog 54 #[.agg (cellsE sq P C sl AY py.length cY false).toArray] V _ from HRT.out V hV)
                rw [hX] at HX9 HA9 HAV HCL HRT
                have HXO := Aside0.mk (show X.toArray.all (·.oneCell') = true from by rw [← HXX.out]; exact HC9.out.one)
                clear hX
                refine wp_region_held_drew (S := fun V => AtC V ⟨g9, 0, none⟩ X) (by kernel_rfl) (HAV.out _ (below_drew1 (Below.refl _ _))) (fun hHeld => ?_)
                (refine wpAnyH_take (i := 0) rfl (by kernel_rfl) (by kernel_rfl) (by kernel_rfl) (fun _ _ _ h => h) (yieldsIf_load_at (by rfl) _ _ rfl ⟨g9, 0, none⟩ rfl X _ (fun _ h => h) (by assumption) rfl HCL.out) (by assumption) ?_; (try simp only [Act.put, List.getElem_toArray, List.getElem_cons_zero, List.getElem_cons_succ, List.setIfInBounds_toArray, List.set_cons_zero, List.set_cons_succ]))
                (refine wpAnyH_take (i := 1) rfl (by kernel_rfl) (by kernel_rfl) (by kernel_rfl) (fun _ _ _ h => h) (yieldsIf_load_at (by rfl) _ _ rfl ⟨g9, 0, none⟩ rfl X _ (fun _ h => h) (by assumption) rfl HCL.out) (by assumption) ?_; (try simp only [Act.put, List.getElem_toArray, List.getElem_cons_zero, List.getElem_cons_succ, List.setIfInBounds_toArray, List.set_cons_zero, List.set_cons_succ]))
                (refine wpAnyH_ready (rs := [2]) (by kernel_rfl) (by simp) (AllReadyH.cons rfl (fun K hK => ?_) AllReadyH.nil); go_simp)
                refine (HRT.out _ (below_drew1 (Below.refl _ _))).mono ?_
                rintro e wa ⟨rfl, hb⟩
                have hb2 := below_drew_of hb
                have HLa := Aside0.mk (left_below HL9.out hb2)
                have HZa := Aside0.mk (blk_below HZ9.out hb2)
                have HYa := Aside0.mk (Kd.R_below HY9.out hb2)
                have HAa := Aside0.mk (HA9.out.below hb2)
                clear hb hb2
                (refine Shut.out hK _ _ HAa.out (fun hHeld => ?_); clear hK K; (try simp only [Act.put, List.getElem_toArray, List.getElem_cons_zero, List.getElem_cons_succ, List.setIfInBounds_toArray, List.set_cons_zero, List.set_cons_succ]))
                refine wpAnyH_ready (rs := [3]) (by kernel_rfl) (by simp) (AllReadyH.cons rfl (fun K hK => ?_) AllReadyH.nil)
                rw [if_pos (by rfl)]
                refine wp_store_row 27 (.tmp 6) (.tmp 36) rfl (w.heap.size + 1) X.toArray rfl rfl 27 zE.toArray HZa.out (by rw [List.size_toArray]; exact HCL.out) (by rw [List.size_toArray, List.size_toArray, zE_len]; have h := HCL.out; rw [info_ent] at h; injection h) HXO.out ?_
                have hg := grown_setRow wa (w.heap.size + 1) X.toArray
                have HSR := Aside0.mk (setRow_heap wa (w.heap.size + 1) zE.toArray X.toArray _ _ HZa.out)
                have HLb := Aside0.mk (left_grown HLa.out (below_setRow (Below.refl _ _) (Nat.le_succ _) _) hg (fun b_ e => by injection e with e; subst e; have := HG.out; exact ⟨by omega, by omega⟩) HG.out.2)
                have HYb := Aside0.mk (Kd.R_grown HYa.out hg (fun k hk e => hk.2 (by injection e)))
                have HAb := Aside0.mk (atC_step HAa.out (grown_keep hg) (by have := HN9.out; dsimp only; omega))
                obtain ⟨wb, hw_⟩ : ∃ W_, wa.setRow (w.heap.size + 1) X.toArray = W_ := ⟨_, rfl⟩
                rw [hw_] at HSR HLb HYb HAb
                rw [hw_]
                clear hw_ hg
                (refine Shut.out hK _ _ HAb.out (fun hHeld => ?_); clear hK K; (try simp only [Act.put, List.getElem_toArray, List.getElem_cons_zero, List.getElem_cons_succ, List.setIfInBounds_toArray, List.set_cons_zero, List.set_cons_succ]))
                (refine wpAnyH_take (i := 4) (v := ?_) rfl (by kernel_rfl) (by kernel_rfl) (by kernel_rfl) (fun _ _ _ h => h) (Or.inl ⟨by rfl, ?_⟩) (by assumption) ?_; (case' refine_2 => (intro w hSw; go_simp; try with_reducible rfl)); (try simp only [Act.put, List.getElem_toArray, List.getElem_cons_zero, List.getElem_cons_succ, List.setIfInBounds_toArray, List.set_cons_zero, List.set_cons_succ]))
                refine wpAnyH_done (by kernel_rfl) ?_ _
                go_wp2_with (fail)
                refine bodyPost_ret (results_ct rfl _ _ (w.heap.size + 1) 27 X.toArray (0, 0) _ rfl HSR.out Try.underlying27 rfl (by rw [List.size_toArray]; exact HCL.out)) rfl ?_
                rw [HE2.out]
                cases rb with
                | true =>
                  rw [if_pos rfl]
                  obtain ⟨_, m9_, r9_⟩ := Kd.R_reads' HYb.out
                  exact ⟨P, C, AY, cY, by rw [← HXX.out]; first | done | rfl, ⟨HPC.out.1, HPC.out.2, m9_, r9_⟩, Kd.R_mono HYb.out (fun _ _ => trivial), HLb.out⟩
                | false =>
                  rw [if_neg Bool.false_ne_true]
                  exact ⟨X, _, rfl, by have h := HCL.out; rw [info_ent] at h; injection h with h; exact h.symm, HXO.out, HLb.out⟩
    · rw [if_pos (by rfl)]
      refine wp_alloc_e rfl ?_
      have hb := (below_alloc (Below.refl zz1.heap.size zz1) (.cells zE.toArray 27))
      have H9_9 := Aside0.mk (show (zz1.alloc (.cells zE.toArray 27)).heap[zz1.heap.size]? = some (.cells zE.toArray 27 (0, 0)) from blk_new _ _)
      have HL_9 := Aside0.mk (left_below HL_1.out hb)
      have HF_9 := Aside0.mk (show Rb (zz1.alloc (.cells zE.toArray 27)) A5 F from Kd.C_below HF_1.out hb)
      have HFN_9 := Aside0.mk (show ∀ ad, A5 = some ad → ad.block ≠ zz1.heap.size from fun ad e => Nat.ne_of_lt (HFB_1.out ad e))
      have HP_9 := Aside0.mk (HP_1.out.below hb)
      have HZ_9 := Aside0.mk (blk_below HZ_1.out hb)
      have HN_9 := Aside0.mk (show w.heap.size + 1 < zz1.heap.size from blk_lt HZ_1.out)
      obtain ⟨zz9, hw_⟩ : ∃ W_, zz1.alloc (.cells zE.toArray 27) = W_ := ⟨_, rfl⟩
      obtain ⟨g9, hg_⟩ : ∃ g_, zz1.heap.size = g_ := ⟨_, rfl⟩
      clear hb
      rw [hw_, hg_] at H9_9
      rw [hg_] at HFN_9 HN_9
      rw [hw_] at HL_9 HF_9 HP_9 HZ_9
      rw [hw_, hg_]
      clear hw_ hg_
      (refine Shut.out hK _ _ HP_9.out (fun hHeld => ?_); clear hK K; (try simp only [Act.put, List.getElem_toArray, List.getElem_cons_zero, List.getElem_cons_succ, List.setIfInBounds_toArray, List.set_cons_zero, List.set_cons_succ]))
      refine wpAnyH_ready (rs := [5]) (by kernel_rfl) (by simp) (AllReadyH.cons rfl (fun K hK => ?_) AllReadyH.nil)
      · go_simp
        refine (HNUM.out _ HL_9.out).mono ?_
        rintro e zz10 ⟨rfl, hl⟩
        have HL_10 := Aside0.mk (HL_9.out.trans hl)
        have HF_10 := Aside0.mk (rb_step HF_9.out HL_9.out.1 hl.2.2)
        have HP_10 := Aside0.mk (atC_step HP_9.out hl.2.2 (by have := HG.out.1; dsimp only; omega))
        have HZ_10 := Aside0.mk (hl.2.2.blk HZ_9.out (by have := HG.out.1; omega) (by simp))
        have H9_10 := Aside0.mk (hl.2.2.blk H9_9.out (by have := HG.out.1; have := HN_9.out; omega) (by simp))
        clear hl
        (refine Shut.out hK _ _ HP_10.out (fun hHeld => ?_); clear hK K; (try simp only [Act.put, List.getElem_toArray, List.getElem_cons_zero, List.getElem_cons_succ, List.setIfInBounds_toArray, List.set_cons_zero, List.set_cons_succ]))
        refine wpAnyH_ready (rs := [7]) (by kernel_rfl) (by simp) (AllReadyH.cons rfl (fun K hK => ?_) AllReadyH.nil)
        · go_simp
          refine (HTXT.out _ HL_10.out).mono ?_
          rintro e zz11 ⟨v, rfl, ho, hl⟩
          obtain ⟨AY, cY, rfl⟩ := Kd.R_slice ho
          have HL_11 := Aside0.mk (HL_10.out.trans hl)
          have HF_11 := Aside0.mk (rb_step HF_10.out HL_10.out.1 hl.2.2)
          have HP_11 := Aside0.mk (atC_step HP_10.out hl.2.2 (by have := HG.out.1; dsimp only; omega))
          have HZ_11 := Aside0.mk (hl.2.2.blk HZ_10.out (by have := HG.out.1; omega) (by simp))
          have H9_11 := Aside0.mk (hl.2.2.blk H9_10.out (by have := HG.out.1; have := HN_9.out; omega) (by simp))
          have HY_11 := Aside0.mk (show Kd.R (Kd.int .u8) 5 zz11 w.heap.size (fun k => k ≠ g9 ∧ k ≠ w.heap.size + 1) (.slice AY py.length cY) py from
            Kd.R_lower (Kd.R_mono (Kd.R_bound ho) (fun k hk => by have h1 := hk.2.1; have h2 := blk_lt H9_10.out; have h3 := blk_lt HZ_10.out; exact ⟨by omega, by omega⟩)) HL_10.out.2.2.1)
          clear hl ho
          (refine Shut.out hK _ _ HP_11.out (fun hHeld => ?_); clear hK K; (try simp only [Act.put, List.getElem_toArray, List.getElem_cons_zero, List.getElem_cons_succ, List.setIfInBounds_toArray, List.set_cons_zero, List.set_cons_succ]))
          (refine wpAnyH_take (i := 8) rfl (by kernel_rfl) (by kernel_rfl) (by kernel_rfl) (fun _ _ _ h => h) (yieldsIf_new (by rfl) (.tmp 12) (.tmp 13) (.tmp 15) (.tmp 17) (.tmp 19) rfl sq sl P C HLP.out.1 HLP.out.2 AY py.length cY rfl rfl rfl rfl rfl) (by assumption) ?_; (try simp only [Act.put, List.getElem_toArray, List.getElem_cons_zero, List.getElem_cons_succ, List.setIfInBounds_toArray, List.set_cons_zero, List.set_cons_succ]))
          refine wpAnyH_ready (rs := [10]) (by kernel_rfl) (by simp) (AllReadyH.cons rfl (fun K hK => ?_) AllReadyH.nil)
          rw [if_pos (by rfl)]
          refine wp_store_row 27 (.tmp 9) (.tmp 20) rfl g9 (cellsE sq P C sl AY py.length cY false).toArray rfl rfl 27 zE.toArray H9_11.out (HCI.out _ _ _).1 (HCI.out _ _ _).2.1 (HCI.out _ _ _).2.2 ?_
          have hg := grown_setRow zz11 g9 (cellsE sq P C sl AY py.length cY false).toArray
          have HL8 := Aside0.mk (left_grown HL_11.out (below_setRow (Below.refl _ _) (by have := HN_9.out; omega) _) hg (fun b e => by injection e with e; subst e; have := HN_9.out; have := HG.out; exact ⟨by omega, by omega⟩) HG.out.2)
          have HF8 := Aside0.mk (rb_row HF_11.out hg HFN_9.out)
          have HZ8 := Aside0.mk ((setRow_other zz11 g9 (w.heap.size + 1) (cellsE sq P C sl AY py.length cY false).toArray (by have := HN_9.out; omega)).trans HZ_11.out)
          have HX8 := Aside0.mk (setRow_heap zz11 g9 zE.toArray (cellsE sq P C sl AY py.length cY false).toArray _ _ H9_11.out)
          have HY8 := Aside0.mk (Kd.R_grown HY_11.out hg (fun k hk e => hk.1 (by injection e)))
          have HP8 := Aside0.mk (atC_step HP_11.out (grown_keep hg) (by have := HN_9.out; dsimp only; omega))
          have HFN := HFN_9
          have HN9 := HN_9
          obtain ⟨w8, hw_⟩ : ∃ W_, zz11.setRow g9 (cellsE sq P C sl AY py.length cY false).toArray = W_ := ⟨_, rfl⟩
          rw [hw_] at HL8 HF8 HZ8 HX8 HY8 HP8
          rw [hw_]
          clear hw_ hg
          (refine Shut.out hK _ _ HP8.out (fun hHeld => ?_); clear hK K; (try simp only [Act.put, List.getElem_toArray, List.getElem_cons_zero, List.getElem_cons_succ, List.setIfInBounds_toArray, List.set_cons_zero, List.set_cons_succ]))
          refine wpAnyH_done (by kernel_rfl) ?_ _
          clear hHeld
          go_wp2_with (fail)
          refine (okO w0 _ g st4 HL8.out.1).mono ?_
          rintro e w8b ⟨rfl, rfl⟩
          cases st4 with
          | none =>
            go_wp2_with ((with_reducible refine gate_store (t := 27) (p := 6) (v := .tmp 30) rfl ?_); refine wpList_store_row rfl 27 (.tmp 6) (.tmp 30) rfl (w.heap.size + 1) zE.toArray rfl rfl 27 zE.toArray HZ8.out HZI.out.1 rfl HZI.out.2 ?_)
            have HSR := setRow_heap w8 (w.heap.size + 1) zE.toArray zE.toArray _ _ HZ8.out
            refine bodyPost_ret (results_ct rfl _ _ (w.heap.size + 1) 27 zE.toArray (0, 0) _ rfl HSR Try.underlying27 rfl HZI.out.1) rfl ?_
            rw [HE.out]
            exact ⟨zE, _, rfl, zE_len, HZI.out.2, left_grown HL8.out (below_setRow (Below.refl _ _) (Nat.le_succ _) _) (grown_setRow _ _ _) (fun b e => by injection e with e; subst e; have := HG.out; exact ⟨by omega, by omega⟩) HG.out.2⟩
          | some r4 =>
            obtain ⟨f, hF⟩ := HFS.out r4 rfl
            subst hF
            obtain ⟨ad5, had, hc5⟩ := Rb.at0 HF8.out
            subst had
            have HE := Aside0.mk (show readE st sq pv = if 1 < f then none else if rightT (sq, pv, cm, sl, py, decide (f = 1)) then some ((sq, pv, cm, sl, py, decide (f = 1)), r4) else none from HE.out)
            by_cases h1 : 1 < f
            · have q1 : decide (1 < f) = true := decide_eq_true h1
              have HE := Aside0.mk (show readE st sq pv = none from by rw [HE.out, if_pos h1])
              clear h1
              go_wp2_with ((with_reducible refine gate_store (t := 27) (p := 6) (v := .tmp 30) rfl ?_); refine wpList_store_row rfl 27 (.tmp 6) (.tmp 30) rfl (w.heap.size + 1) zE.toArray rfl rfl 27 zE.toArray HZ8.out HZI.out.1 rfl HZI.out.2 ?_)
              have HSR := setRow_heap w8 (w.heap.size + 1) zE.toArray zE.toArray _ _ HZ8.out
              refine bodyPost_ret (results_ct rfl _ _ (w.heap.size + 1) 27 zE.toArray (0, 0) _ rfl HSR Try.underlying27 rfl HZI.out.1) rfl ?_
              rw [HE.out]
              exact ⟨zE, _, rfl, zE_len, HZI.out.2, left_grown HL8.out (below_setRow (Below.refl _ _) (Nat.le_succ _) _) (grown_setRow _ _ _) (fun b e => by injection e with e; subst e; have := HG.out; exact ⟨by omega, by omega⟩) HG.out.2⟩
            · have q1 : decide (1 < f) = false := decide_eq_false h1
              have HE := Aside0.mk (show readE st sq pv = if rightT (sq, pv, cm, sl, py, decide (f = 1)) then some ((sq, pv, cm, sl, py, decide (f = 1)), r4) else none from by rw [HE.out, if_neg h1])
              clear h1
              by_cases hf : f = 1
              · subst hf
                rw [decide_eq_true rfl] at HE
                have HX9 := Aside0.mk (blk_set HX8.out 67 (.bool true))
                rw [List.setIfInBounds_toArray, set_flag sq sl P C HLP.out.1 HLP.out.2] at HX9
                have HL9 := Aside0.mk (left_grown HL8.out (show Below w.heap.size w8 (w8.setCell ⟨g9, 67, none⟩ (.bool true)) from ⟨rfl, rfl, rfl, by simp [World.setCell], fun k hk => Below.heap_setCell w8 ⟨g9, 67, none⟩ (.bool true) k (by have := HN9.out; dsimp only; omega)⟩) (grown_setCell w8 g9 67 (.bool true)) (fun b_ e => by injection e with e; subst e; have := HG.out; have := HN9.out; exact ⟨by omega, by omega⟩) HG.out.2)
                have HZ9 := Aside0.mk (show (w8.setCell ⟨g9, 67, none⟩ (.bool true)).heap[w.heap.size + 1]? = some (.cells zE.toArray 27 (0, 0)) from (grown_setCell w8 g9 67 (.bool true)).block (w.heap.size + 1) (blk_lt HZ8.out) (fun e => by injection e with e; have := HN9.out; omega) |>.trans HZ8.out)
                have HY9 := Aside0.mk (Kd.R_grown HY8.out (grown_setCell w8 g9 67 (.bool true)) (fun k hk e => hk.1 (by injection e)))
                have c67 : w8.cell? ⟨g9, 67, none⟩ = some (.bool false) := (entAt_blk (x := (sq, pv, cm, sl, py, false)) HLP.out.1 HLP.out.2 HX8.out).r
                have f67 := blk_frozen HX8.out 67
                go_upto_region 6 with (fail)
                obtain ⟨w9, hw_⟩ : ∃ W_, w8.setCell ⟨g9, 67, none⟩ (.bool true) = W_ := ⟨_, rfl⟩
                rw [hw_] at HX9 HL9 HZ9 HY9
                rw [hw_]
                clear hw_
                obtain ⟨m9_, r9_⟩ := (Kd.R_reads' HY9.out).2
                have HC9 := Aside0.mk (show EntC w9 (sq, pv, cm, sl, py, true) P C AY cY from ⟨HPC.out.1, HPC.out.2, m9_, r9_⟩)
                clear m9_ r9_
                have HRT := Aside0.mk (fun V (hV : Below w9.heap.size w9 V) => right1_c (sq, pv, cm, sl, py, true) (HEU.out true) (HPL.out) P C AY cY V (HC9.out.below hV))
                unfold RetB at HRT
                have HA9 := Aside0.mk (atC_blk HX9.out)
                have HAV := Aside0.mk (fun V (hV : Below w9.heap.size w9 V) => HA9.out.below hV)
                have HCL := Aside0.mk (show (Try.prog.info? 27).map (·.size) = some (cellsE sq P C sl AY py.length cY true).length from HC9.out.info)
                have HE2 := Aside0.mk (show readE st sq pv = if rightT (sq, pv, cm, sl, py, true) then some ((sq, pv, cm, sl, py, true), r4) else none from HE.out)
                obtain ⟨rb, hrb⟩ : ∃ t, rightT (sq, pv, cm, sl, py, true) = t := ⟨_, rfl⟩
                rw [hrb] at HRT HE2
                clear hrb
                obtain ⟨X, hX⟩ : ∃ t, cellsE sq P C sl AY py.length cY true = t := ⟨_, rfl⟩
                have HXX := Aside0.mk hX
                have HRT := Aside0.mk (fun V hV => show Calls Try.prog 54 #[.agg (cellsE sq P C sl AY py.length cY true).toArray] V _ from HRT.out V hV)
                rw [hX] at HX9 HA9 HAV HCL HRT
                have HXO := Aside0.mk (show X.toArray.all (·.oneCell') = true from by rw [← HXX.out]; exact HC9.out.one)
                clear hX
                refine wp_region_held_drew (S := fun V => AtC V ⟨g9, 0, none⟩ X) (by kernel_rfl) (HAV.out _ (below_drew1 (Below.refl _ _))) (fun hHeld => ?_)
                (refine wpAnyH_take (i := 0) rfl (by kernel_rfl) (by kernel_rfl) (by kernel_rfl) (fun _ _ _ h => h) (yieldsIf_load_at (by rfl) _ _ rfl ⟨g9, 0, none⟩ rfl X _ (fun _ h => h) (by assumption) rfl HCL.out) (by assumption) ?_; (try simp only [Act.put, List.getElem_toArray, List.getElem_cons_zero, List.getElem_cons_succ, List.setIfInBounds_toArray, List.set_cons_zero, List.set_cons_succ]))
                (refine wpAnyH_take (i := 1) rfl (by kernel_rfl) (by kernel_rfl) (by kernel_rfl) (fun _ _ _ h => h) (yieldsIf_load_at (by rfl) _ _ rfl ⟨g9, 0, none⟩ rfl X _ (fun _ h => h) (by assumption) rfl HCL.out) (by assumption) ?_; (try simp only [Act.put, List.getElem_toArray, List.getElem_cons_zero, List.getElem_cons_succ, List.setIfInBounds_toArray, List.set_cons_zero, List.set_cons_succ]))
                (refine wpAnyH_ready (rs := [2]) (by kernel_rfl) (by simp) (AllReadyH.cons rfl (fun K hK => ?_) AllReadyH.nil); go_simp)
                refine (HRT.out _ (below_drew1 (Below.refl _ _))).mono ?_
                rintro e wa ⟨rfl, hb⟩
                have hb2 := below_drew_of hb
                have HLa := Aside0.mk (left_below HL9.out hb2)
                have HZa := Aside0.mk (blk_below HZ9.out hb2)
                have HYa := Aside0.mk (Kd.R_below HY9.out hb2)
                have HAa := Aside0.mk (HA9.out.below hb2)
                clear hb hb2
                (refine Shut.out hK _ _ HAa.out (fun hHeld => ?_); clear hK K; (try simp only [Act.put, List.getElem_toArray, List.getElem_cons_zero, List.getElem_cons_succ, List.setIfInBounds_toArray, List.set_cons_zero, List.set_cons_succ]))
                refine wpAnyH_ready (rs := [3]) (by kernel_rfl) (by simp) (AllReadyH.cons rfl (fun K hK => ?_) AllReadyH.nil)
                rw [if_pos (by rfl)]
                refine wp_store_row 27 (.tmp 6) (.tmp 36) rfl (w.heap.size + 1) X.toArray rfl rfl 27 zE.toArray HZa.out (by rw [List.size_toArray]; exact HCL.out) (by rw [List.size_toArray, List.size_toArray, zE_len]; have h := HCL.out; rw [info_ent] at h; injection h) HXO.out ?_
                have hg := grown_setRow wa (w.heap.size + 1) X.toArray
                have HSR := Aside0.mk (setRow_heap wa (w.heap.size + 1) zE.toArray X.toArray _ _ HZa.out)
                have HLb := Aside0.mk (left_grown HLa.out (below_setRow (Below.refl _ _) (Nat.le_succ _) _) hg (fun b_ e => by injection e with e; subst e; have := HG.out; exact ⟨by omega, by omega⟩) HG.out.2)
                have HYb := Aside0.mk (Kd.R_grown HYa.out hg (fun k hk e => hk.2 (by injection e)))
                have HAb := Aside0.mk (atC_step HAa.out (grown_keep hg) (by have := HN9.out; dsimp only; omega))
                obtain ⟨wb, hw_⟩ : ∃ W_, wa.setRow (w.heap.size + 1) X.toArray = W_ := ⟨_, rfl⟩
                rw [hw_] at HSR HLb HYb HAb
                rw [hw_]
                clear hw_ hg
                (refine Shut.out hK _ _ HAb.out (fun hHeld => ?_); clear hK K; (try simp only [Act.put, List.getElem_toArray, List.getElem_cons_zero, List.getElem_cons_succ, List.setIfInBounds_toArray, List.set_cons_zero, List.set_cons_succ]))
                (refine wpAnyH_take (i := 4) (v := ?_) rfl (by kernel_rfl) (by kernel_rfl) (by kernel_rfl) (fun _ _ _ h => h) (Or.inl ⟨by rfl, ?_⟩) (by assumption) ?_; (case' refine_2 => (intro w hSw; go_simp; try with_reducible rfl)); (try simp only [Act.put, List.getElem_toArray, List.getElem_cons_zero, List.getElem_cons_succ, List.setIfInBounds_toArray, List.set_cons_zero, List.set_cons_succ]))
                refine wpAnyH_done (by kernel_rfl) ?_ _
                go_wp2_with (fail)
                refine bodyPost_ret (results_ct rfl _ _ (w.heap.size + 1) 27 X.toArray (0, 0) _ rfl HSR.out Try.underlying27 rfl (by rw [List.size_toArray]; exact HCL.out)) rfl ?_
                rw [HE2.out]
                cases rb with
                | true =>
                  rw [if_pos rfl]
                  obtain ⟨_, m9_, r9_⟩ := Kd.R_reads' HYb.out
                  exact ⟨P, C, AY, cY, by rw [← HXX.out]; first | done | rfl, ⟨HPC.out.1, HPC.out.2, m9_, r9_⟩, Kd.R_mono HYb.out (fun _ _ => trivial), HLb.out⟩
                | false =>
                  rw [if_neg Bool.false_ne_true]
                  exact ⟨X, _, rfl, by have h := HCL.out; rw [info_ent] at h; injection h with h; exact h.symm, HXO.out, HLb.out⟩
              · have q2 : (f == 1) = false := by simp [hf]
                rw [decide_eq_false hf] at HE
                clear hf
                have HX9 := Aside0.mk (blk_set HX8.out 67 (.bool false))
                rw [List.setIfInBounds_toArray, set_flag sq sl P C HLP.out.1 HLP.out.2] at HX9
                have HL9 := Aside0.mk (left_grown HL8.out (show Below w.heap.size w8 (w8.setCell ⟨g9, 67, none⟩ (.bool false)) from ⟨rfl, rfl, rfl, by simp [World.setCell], fun k hk => Below.heap_setCell w8 ⟨g9, 67, none⟩ (.bool false) k (by have := HN9.out; dsimp only; omega)⟩) (grown_setCell w8 g9 67 (.bool false)) (fun b_ e => by injection e with e; subst e; have := HG.out; have := HN9.out; exact ⟨by omega, by omega⟩) HG.out.2)
                have HZ9 := Aside0.mk (show (w8.setCell ⟨g9, 67, none⟩ (.bool false)).heap[w.heap.size + 1]? = some (.cells zE.toArray 27 (0, 0)) from (grown_setCell w8 g9 67 (.bool false)).block (w.heap.size + 1) (blk_lt HZ8.out) (fun e => by injection e with e; have := HN9.out; omega) |>.trans HZ8.out)
                have HY9 := Aside0.mk (Kd.R_grown HY8.out (grown_setCell w8 g9 67 (.bool false)) (fun k hk e => hk.1 (by injection e)))
                have c67 : w8.cell? ⟨g9, 67, none⟩ = some (.bool false) := (entAt_blk (x := (sq, pv, cm, sl, py, false)) HLP.out.1 HLP.out.2 HX8.out).r
                have f67 := blk_frozen HX8.out 67
                go_upto_region 6 with (fail)
                obtain ⟨w9, hw_⟩ : ∃ W_, w8.setCell ⟨g9, 67, none⟩ (.bool false) = W_ := ⟨_, rfl⟩
                rw [hw_] at HX9 HL9 HZ9 HY9
                rw [hw_]
                clear hw_
                obtain ⟨m9_, r9_⟩ := (Kd.R_reads' HY9.out).2
                have HC9 := Aside0.mk (show EntC w9 (sq, pv, cm, sl, py, false) P C AY cY from ⟨HPC.out.1, HPC.out.2, m9_, r9_⟩)
                clear m9_ r9_
                have HRT := Aside0.mk (fun V (hV : Below w9.heap.size w9 V) => right1_c (sq, pv, cm, sl, py, false) (HEU.out false) (HPL.out) P C AY cY V (HC9.out.below hV))
                unfold RetB at HRT
                have HA9 := Aside0.mk (atC_blk HX9.out)
                have HAV := Aside0.mk (fun V (hV : Below w9.heap.size w9 V) => HA9.out.below hV)
                have HCL := Aside0.mk (show (Try.prog.info? 27).map (·.size) = some (cellsE sq P C sl AY py.length cY false).length from HC9.out.info)
                have HE2 := Aside0.mk (show readE st sq pv = if rightT (sq, pv, cm, sl, py, false) then some ((sq, pv, cm, sl, py, false), r4) else none from HE.out)
                obtain ⟨rb, hrb⟩ : ∃ t, rightT (sq, pv, cm, sl, py, false) = t := ⟨_, rfl⟩
                rw [hrb] at HRT HE2
                clear hrb
                obtain ⟨X, hX⟩ : ∃ t, cellsE sq P C sl AY py.length cY false = t := ⟨_, rfl⟩
                have HXX := Aside0.mk hX
                have HRT := Aside0.mk (fun V hV => show Calls Try.prog 54 #[.agg (cellsE sq P C sl AY py.length cY false).toArray] V _ from HRT.out V hV)
                rw [hX] at HX9 HA9 HAV HCL HRT
                have HXO := Aside0.mk (show X.toArray.all (·.oneCell') = true from by rw [← HXX.out]; exact HC9.out.one)
                clear hX
                refine wp_region_held_drew (S := fun V => AtC V ⟨g9, 0, none⟩ X) (by kernel_rfl) (HAV.out _ (below_drew1 (Below.refl _ _))) (fun hHeld => ?_)
                (refine wpAnyH_take (i := 0) rfl (by kernel_rfl) (by kernel_rfl) (by kernel_rfl) (fun _ _ _ h => h) (yieldsIf_load_at (by rfl) _ _ rfl ⟨g9, 0, none⟩ rfl X _ (fun _ h => h) (by assumption) rfl HCL.out) (by assumption) ?_; (try simp only [Act.put, List.getElem_toArray, List.getElem_cons_zero, List.getElem_cons_succ, List.setIfInBounds_toArray, List.set_cons_zero, List.set_cons_succ]))
                (refine wpAnyH_take (i := 1) rfl (by kernel_rfl) (by kernel_rfl) (by kernel_rfl) (fun _ _ _ h => h) (yieldsIf_load_at (by rfl) _ _ rfl ⟨g9, 0, none⟩ rfl X _ (fun _ h => h) (by assumption) rfl HCL.out) (by assumption) ?_; (try simp only [Act.put, List.getElem_toArray, List.getElem_cons_zero, List.getElem_cons_succ, List.setIfInBounds_toArray, List.set_cons_zero, List.set_cons_succ]))
                (refine wpAnyH_ready (rs := [2]) (by kernel_rfl) (by simp) (AllReadyH.cons rfl (fun K hK => ?_) AllReadyH.nil); go_simp)
                refine (HRT.out _ (below_drew1 (Below.refl _ _))).mono ?_
                rintro e wa ⟨rfl, hb⟩
                have hb2 := below_drew_of hb
                have HLa := Aside0.mk (left_below HL9.out hb2)
                have HZa := Aside0.mk (blk_below HZ9.out hb2)
                have HYa := Aside0.mk (Kd.R_below HY9.out hb2)
                have HAa := Aside0.mk (HA9.out.below hb2)
                clear hb hb2
                (refine Shut.out hK _ _ HAa.out (fun hHeld => ?_); clear hK K; (try simp only [Act.put, List.getElem_toArray, List.getElem_cons_zero, List.getElem_cons_succ, List.setIfInBounds_toArray, List.set_cons_zero, List.set_cons_succ]))
                refine wpAnyH_ready (rs := [3]) (by kernel_rfl) (by simp) (AllReadyH.cons rfl (fun K hK => ?_) AllReadyH.nil)
                rw [if_pos (by rfl)]
                refine wp_store_row 27 (.tmp 6) (.tmp 36) rfl (w.heap.size + 1) X.toArray rfl rfl 27 zE.toArray HZa.out (by rw [List.size_toArray]; exact HCL.out) (by rw [List.size_toArray, List.size_toArray, zE_len]; have h := HCL.out; rw [info_ent] at h; injection h) HXO.out ?_
                have hg := grown_setRow wa (w.heap.size + 1) X.toArray
                have HSR := Aside0.mk (setRow_heap wa (w.heap.size + 1) zE.toArray X.toArray _ _ HZa.out)
                have HLb := Aside0.mk (left_grown HLa.out (below_setRow (Below.refl _ _) (Nat.le_succ _) _) hg (fun b_ e => by injection e with e; subst e; have := HG.out; exact ⟨by omega, by omega⟩) HG.out.2)
                have HYb := Aside0.mk (Kd.R_grown HYa.out hg (fun k hk e => hk.2 (by injection e)))
                have HAb := Aside0.mk (atC_step HAa.out (grown_keep hg) (by have := HN9.out; dsimp only; omega))
                obtain ⟨wb, hw_⟩ : ∃ W_, wa.setRow (w.heap.size + 1) X.toArray = W_ := ⟨_, rfl⟩
                rw [hw_] at HSR HLb HYb HAb
                rw [hw_]
                clear hw_ hg
                (refine Shut.out hK _ _ HAb.out (fun hHeld => ?_); clear hK K; (try simp only [Act.put, List.getElem_toArray, List.getElem_cons_zero, List.getElem_cons_succ, List.setIfInBounds_toArray, List.set_cons_zero, List.set_cons_succ]))
                (refine wpAnyH_take (i := 4) (v := ?_) rfl (by kernel_rfl) (by kernel_rfl) (by kernel_rfl) (fun _ _ _ h => h) (Or.inl ⟨by rfl, ?_⟩) (by assumption) ?_; (case' refine_2 => (intro w hSw; go_simp; try with_reducible rfl)); (try simp only [Act.put, List.getElem_toArray, List.getElem_cons_zero, List.getElem_cons_succ, List.setIfInBounds_toArray, List.set_cons_zero, List.set_cons_succ]))
                refine wpAnyH_done (by kernel_rfl) ?_ _
                go_wp2_with (fail)
                refine bodyPost_ret (results_ct rfl _ _ (w.heap.size + 1) 27 X.toArray (0, 0) _ rfl HSR.out Try.underlying27 rfl (by rw [List.size_toArray]; exact HCL.out)) rfl ?_
                rw [HE2.out]
                cases rb with
                | true =>
                  rw [if_pos rfl]
                  obtain ⟨_, m9_, r9_⟩ := Kd.R_reads' HYb.out
                  exact ⟨P, C, AY, cY, by rw [← HXX.out]; first | done | rfl, ⟨HPC.out.1, HPC.out.2, m9_, r9_⟩, Kd.R_mono HYb.out (fun _ _ => trivial), HLb.out⟩
                | false =>
                  rw [if_neg Bool.false_ne_true]
                  exact ⟨X, _, rfl, by have h := HCL.out; rw [info_ent] at h; injection h with h; exact h.symm, HXO.out, HLb.out⟩
  · rw [if_pos (by rfl)]
    refine wp_alloc_e rfl ?_
    have hb := (below_alloc (Below.refl w2.drew.heap.size w2.drew) (.cells zE.toArray 27))
    have H9_13 := Aside0.mk (show (w2.drew.alloc (.cells zE.toArray 27)).heap[w2.drew.heap.size]? = some (.cells zE.toArray 27 (0, 0)) from blk_new _ _)
    have HL_13 := Aside0.mk (left_below HLd.out hb)
    have HF_13 := Aside0.mk (show Rb (w2.drew.alloc (.cells zE.toArray 27)) A5 F from Kd.C_below HFd.out hb)
    have HFN_13 := Aside0.mk (show ∀ ad, A5 = some ad → ad.block ≠ w2.drew.heap.size from fun ad e => Nat.ne_of_lt (HFB2.out ad e))
    have HP_13 := Aside0.mk (HPd.out.below hb)
    have HZ_13 := Aside0.mk (blk_below HZd.out hb)
    have HN_13 := Aside0.mk (show w.heap.size + 1 < w2.drew.heap.size from blk_lt HZd.out)
    obtain ⟨zz13, hw_⟩ : ∃ W_, w2.drew.alloc (.cells zE.toArray 27) = W_ := ⟨_, rfl⟩
    obtain ⟨g9, hg_⟩ : ∃ g_, w2.drew.heap.size = g_ := ⟨_, rfl⟩
    clear hb
    rw [hw_, hg_] at H9_13
    rw [hg_] at HFN_13 HN_13
    rw [hw_] at HL_13 HF_13 HP_13 HZ_13
    rw [hw_, hg_]
    clear hw_ hg_
    (refine Shut.out hK _ _ HP_13.out (fun hHeld => ?_); clear hK K; (try simp only [Act.put, List.getElem_toArray, List.getElem_cons_zero, List.getElem_cons_succ, List.setIfInBounds_toArray, List.set_cons_zero, List.set_cons_succ]))
    refine wpAnyH_ready (rs := [3]) (by kernel_rfl) (by simp) (AllReadyH.cons rfl (fun K hK => ?_) AllReadyH.nil)
    · go_simp
      refine (HSUM.out _ HL_13.out).mono ?_
      rintro e zz14 ⟨rfl, hl⟩
      have HL_14 := Aside0.mk (HL_13.out.trans hl)
      have HF_14 := Aside0.mk (rb_step HF_13.out HL_13.out.1 hl.2.2)
      have HP_14 := Aside0.mk (atC_step HP_13.out hl.2.2 (by have := HG.out.1; dsimp only; omega))
      have HZ_14 := Aside0.mk (hl.2.2.blk HZ_13.out (by have := HG.out.1; omega) (by simp))
      have H9_14 := Aside0.mk (hl.2.2.blk H9_13.out (by have := HG.out.1; have := HN_13.out; omega) (by simp))
      clear hl
      (refine Shut.out hK _ _ HP_14.out (fun hHeld => ?_); clear hK K; (try simp only [Act.put, List.getElem_toArray, List.getElem_cons_zero, List.getElem_cons_succ, List.setIfInBounds_toArray, List.set_cons_zero, List.set_cons_succ]))
      refine wpAnyH_ready (rs := [5]) (by kernel_rfl) (by simp) (AllReadyH.cons rfl (fun K hK => ?_) AllReadyH.nil)
      · go_simp
        refine (HNUM.out _ HL_14.out).mono ?_
        rintro e zz15 ⟨rfl, hl⟩
        have HL_15 := Aside0.mk (HL_14.out.trans hl)
        have HF_15 := Aside0.mk (rb_step HF_14.out HL_14.out.1 hl.2.2)
        have HP_15 := Aside0.mk (atC_step HP_14.out hl.2.2 (by have := HG.out.1; dsimp only; omega))
        have HZ_15 := Aside0.mk (hl.2.2.blk HZ_14.out (by have := HG.out.1; omega) (by simp))
        have H9_15 := Aside0.mk (hl.2.2.blk H9_14.out (by have := HG.out.1; have := HN_13.out; omega) (by simp))
        clear hl
        (refine Shut.out hK _ _ HP_15.out (fun hHeld => ?_); clear hK K; (try simp only [Act.put, List.getElem_toArray, List.getElem_cons_zero, List.getElem_cons_succ, List.setIfInBounds_toArray, List.set_cons_zero, List.set_cons_succ]))
        refine wpAnyH_ready (rs := [7]) (by kernel_rfl) (by simp) (AllReadyH.cons rfl (fun K hK => ?_) AllReadyH.nil)
        · go_simp
          refine (HTXT.out _ HL_15.out).mono ?_
          rintro e zz16 ⟨v, rfl, ho, hl⟩
          obtain ⟨AY, cY, rfl⟩ := Kd.R_slice ho
          have HL_16 := Aside0.mk (HL_15.out.trans hl)
          have HF_16 := Aside0.mk (rb_step HF_15.out HL_15.out.1 hl.2.2)
          have HP_16 := Aside0.mk (atC_step HP_15.out hl.2.2 (by have := HG.out.1; dsimp only; omega))
          have HZ_16 := Aside0.mk (hl.2.2.blk HZ_15.out (by have := HG.out.1; omega) (by simp))
          have H9_16 := Aside0.mk (hl.2.2.blk H9_15.out (by have := HG.out.1; have := HN_13.out; omega) (by simp))
          have HY_16 := Aside0.mk (show Kd.R (Kd.int .u8) 5 zz16 w.heap.size (fun k => k ≠ g9 ∧ k ≠ w.heap.size + 1) (.slice AY py.length cY) py from
            Kd.R_lower (Kd.R_mono (Kd.R_bound ho) (fun k hk => by have h1 := hk.2.1; have h2 := blk_lt H9_15.out; have h3 := blk_lt HZ_15.out; exact ⟨by omega, by omega⟩)) HL_15.out.2.2.1)
          clear hl ho
          (refine Shut.out hK _ _ HP_16.out (fun hHeld => ?_); clear hK K; (try simp only [Act.put, List.getElem_toArray, List.getElem_cons_zero, List.getElem_cons_succ, List.setIfInBounds_toArray, List.set_cons_zero, List.set_cons_succ]))
          (refine wpAnyH_take (i := 8) rfl (by kernel_rfl) (by kernel_rfl) (by kernel_rfl) (fun _ _ _ h => h) (yieldsIf_new (by rfl) (.tmp 12) (.tmp 13) (.tmp 15) (.tmp 17) (.tmp 19) rfl sq sl P C HLP.out.1 HLP.out.2 AY py.length cY rfl rfl rfl rfl rfl) (by assumption) ?_; (try simp only [Act.put, List.getElem_toArray, List.getElem_cons_zero, List.getElem_cons_succ, List.setIfInBounds_toArray, List.set_cons_zero, List.set_cons_succ]))
          refine wpAnyH_ready (rs := [10]) (by kernel_rfl) (by simp) (AllReadyH.cons rfl (fun K hK => ?_) AllReadyH.nil)
          rw [if_pos (by rfl)]
          refine wp_store_row 27 (.tmp 9) (.tmp 20) rfl g9 (cellsE sq P C sl AY py.length cY false).toArray rfl rfl 27 zE.toArray H9_16.out (HCI.out _ _ _).1 (HCI.out _ _ _).2.1 (HCI.out _ _ _).2.2 ?_
          have hg := grown_setRow zz16 g9 (cellsE sq P C sl AY py.length cY false).toArray
          have HL8 := Aside0.mk (left_grown HL_16.out (below_setRow (Below.refl _ _) (by have := HN_13.out; omega) _) hg (fun b e => by injection e with e; subst e; have := HN_13.out; have := HG.out; exact ⟨by omega, by omega⟩) HG.out.2)
          have HF8 := Aside0.mk (rb_row HF_16.out hg HFN_13.out)
          have HZ8 := Aside0.mk ((setRow_other zz16 g9 (w.heap.size + 1) (cellsE sq P C sl AY py.length cY false).toArray (by have := HN_13.out; omega)).trans HZ_16.out)
          have HX8 := Aside0.mk (setRow_heap zz16 g9 zE.toArray (cellsE sq P C sl AY py.length cY false).toArray _ _ H9_16.out)
          have HY8 := Aside0.mk (Kd.R_grown HY_16.out hg (fun k hk e => hk.1 (by injection e)))
          have HP8 := Aside0.mk (atC_step HP_16.out (grown_keep hg) (by have := HN_13.out; dsimp only; omega))
          have HFN := HFN_13
          have HN9 := HN_13
          obtain ⟨w8, hw_⟩ : ∃ W_, zz16.setRow g9 (cellsE sq P C sl AY py.length cY false).toArray = W_ := ⟨_, rfl⟩
          rw [hw_] at HL8 HF8 HZ8 HX8 HY8 HP8
          rw [hw_]
          clear hw_ hg
          (refine Shut.out hK _ _ HP8.out (fun hHeld => ?_); clear hK K; (try simp only [Act.put, List.getElem_toArray, List.getElem_cons_zero, List.getElem_cons_succ, List.setIfInBounds_toArray, List.set_cons_zero, List.set_cons_succ]))
          refine wpAnyH_done (by kernel_rfl) ?_ _
          clear hHeld
          go_wp2_with (fail)
          refine (okO w0 _ g st4 HL8.out.1).mono ?_
          rintro e w8b ⟨rfl, rfl⟩
          cases st4 with
          | none =>
            go_wp2_with ((with_reducible refine gate_store (t := 27) (p := 6) (v := .tmp 30) rfl ?_); refine wpList_store_row rfl 27 (.tmp 6) (.tmp 30) rfl (w.heap.size + 1) zE.toArray rfl rfl 27 zE.toArray HZ8.out HZI.out.1 rfl HZI.out.2 ?_)
            have HSR := setRow_heap w8 (w.heap.size + 1) zE.toArray zE.toArray _ _ HZ8.out
            refine bodyPost_ret (results_ct rfl _ _ (w.heap.size + 1) 27 zE.toArray (0, 0) _ rfl HSR Try.underlying27 rfl HZI.out.1) rfl ?_
            rw [HE.out]
            exact ⟨zE, _, rfl, zE_len, HZI.out.2, left_grown HL8.out (below_setRow (Below.refl _ _) (Nat.le_succ _) _) (grown_setRow _ _ _) (fun b e => by injection e with e; subst e; have := HG.out; exact ⟨by omega, by omega⟩) HG.out.2⟩
          | some r4 =>
            obtain ⟨f, hF⟩ := HFS.out r4 rfl
            subst hF
            obtain ⟨ad5, had, hc5⟩ := Rb.at0 HF8.out
            subst had
            have HE := Aside0.mk (show readE st sq pv = if 1 < f then none else if rightT (sq, pv, cm, sl, py, decide (f = 1)) then some ((sq, pv, cm, sl, py, decide (f = 1)), r4) else none from HE.out)
            by_cases h1 : 1 < f
            · have q1 : decide (1 < f) = true := decide_eq_true h1
              have HE := Aside0.mk (show readE st sq pv = none from by rw [HE.out, if_pos h1])
              clear h1
              go_wp2_with ((with_reducible refine gate_store (t := 27) (p := 6) (v := .tmp 30) rfl ?_); refine wpList_store_row rfl 27 (.tmp 6) (.tmp 30) rfl (w.heap.size + 1) zE.toArray rfl rfl 27 zE.toArray HZ8.out HZI.out.1 rfl HZI.out.2 ?_)
              have HSR := setRow_heap w8 (w.heap.size + 1) zE.toArray zE.toArray _ _ HZ8.out
              refine bodyPost_ret (results_ct rfl _ _ (w.heap.size + 1) 27 zE.toArray (0, 0) _ rfl HSR Try.underlying27 rfl HZI.out.1) rfl ?_
              rw [HE.out]
              exact ⟨zE, _, rfl, zE_len, HZI.out.2, left_grown HL8.out (below_setRow (Below.refl _ _) (Nat.le_succ _) _) (grown_setRow _ _ _) (fun b e => by injection e with e; subst e; have := HG.out; exact ⟨by omega, by omega⟩) HG.out.2⟩
            · have q1 : decide (1 < f) = false := decide_eq_false h1
              have HE := Aside0.mk (show readE st sq pv = if rightT (sq, pv, cm, sl, py, decide (f = 1)) then some ((sq, pv, cm, sl, py, decide (f = 1)), r4) else none from by rw [HE.out, if_neg h1])
              clear h1
              by_cases hf : f = 1
              · subst hf
                rw [decide_eq_true rfl] at HE
                have HX9 := Aside0.mk (blk_set HX8.out 67 (.bool true))
                rw [List.setIfInBounds_toArray, set_flag sq sl P C HLP.out.1 HLP.out.2] at HX9
                have HL9 := Aside0.mk (left_grown HL8.out (show Below w.heap.size w8 (w8.setCell ⟨g9, 67, none⟩ (.bool true)) from ⟨rfl, rfl, rfl, by simp [World.setCell], fun k hk => Below.heap_setCell w8 ⟨g9, 67, none⟩ (.bool true) k (by have := HN9.out; dsimp only; omega)⟩) (grown_setCell w8 g9 67 (.bool true)) (fun b_ e => by injection e with e; subst e; have := HG.out; have := HN9.out; exact ⟨by omega, by omega⟩) HG.out.2)
                have HZ9 := Aside0.mk (show (w8.setCell ⟨g9, 67, none⟩ (.bool true)).heap[w.heap.size + 1]? = some (.cells zE.toArray 27 (0, 0)) from (grown_setCell w8 g9 67 (.bool true)).block (w.heap.size + 1) (blk_lt HZ8.out) (fun e => by injection e with e; have := HN9.out; omega) |>.trans HZ8.out)
                have HY9 := Aside0.mk (Kd.R_grown HY8.out (grown_setCell w8 g9 67 (.bool true)) (fun k hk e => hk.1 (by injection e)))
                have c67 : w8.cell? ⟨g9, 67, none⟩ = some (.bool false) := (entAt_blk (x := (sq, pv, cm, sl, py, false)) HLP.out.1 HLP.out.2 HX8.out).r
                have f67 := blk_frozen HX8.out 67
                go_upto_region 6 with (fail)
                obtain ⟨w9, hw_⟩ : ∃ W_, w8.setCell ⟨g9, 67, none⟩ (.bool true) = W_ := ⟨_, rfl⟩
                rw [hw_] at HX9 HL9 HZ9 HY9
                rw [hw_]
                clear hw_
                obtain ⟨m9_, r9_⟩ := (Kd.R_reads' HY9.out).2
                have HC9 := Aside0.mk (show EntC w9 (sq, pv, cm, sl, py, true) P C AY cY from ⟨HPC.out.1, HPC.out.2, m9_, r9_⟩)
                clear m9_ r9_
                have HRT := Aside0.mk (fun V (hV : Below w9.heap.size w9 V) => right1_c (sq, pv, cm, sl, py, true) (HEU.out true) (HPL.out) P C AY cY V (HC9.out.below hV))
                unfold RetB at HRT
                have HA9 := Aside0.mk (atC_blk HX9.out)
                have HAV := Aside0.mk (fun V (hV : Below w9.heap.size w9 V) => HA9.out.below hV)
                have HCL := Aside0.mk (show (Try.prog.info? 27).map (·.size) = some (cellsE sq P C sl AY py.length cY true).length from HC9.out.info)
                have HE2 := Aside0.mk (show readE st sq pv = if rightT (sq, pv, cm, sl, py, true) then some ((sq, pv, cm, sl, py, true), r4) else none from HE.out)
                obtain ⟨rb, hrb⟩ : ∃ t, rightT (sq, pv, cm, sl, py, true) = t := ⟨_, rfl⟩
                rw [hrb] at HRT HE2
                clear hrb
                obtain ⟨X, hX⟩ : ∃ t, cellsE sq P C sl AY py.length cY true = t := ⟨_, rfl⟩
                have HXX := Aside0.mk hX
                have HRT := Aside0.mk (fun V hV => show Calls Try.prog 54 #[.agg (cellsE sq P C sl AY py.length cY true).toArray] V _ from HRT.out V hV)
                rw [hX] at HX9 HA9 HAV HCL HRT
                have HXO := Aside0.mk (show X.toArray.all (·.oneCell') = true from by rw [← HXX.out]; exact HC9.out.one)
                clear hX
                refine wp_region_held_drew (S := fun V => AtC V ⟨g9, 0, none⟩ X) (by kernel_rfl) (HAV.out _ (below_drew1 (Below.refl _ _))) (fun hHeld => ?_)
                (refine wpAnyH_take (i := 0) rfl (by kernel_rfl) (by kernel_rfl) (by kernel_rfl) (fun _ _ _ h => h) (yieldsIf_load_at (by rfl) _ _ rfl ⟨g9, 0, none⟩ rfl X _ (fun _ h => h) (by assumption) rfl HCL.out) (by assumption) ?_; (try simp only [Act.put, List.getElem_toArray, List.getElem_cons_zero, List.getElem_cons_succ, List.setIfInBounds_toArray, List.set_cons_zero, List.set_cons_succ]))
                (refine wpAnyH_take (i := 1) rfl (by kernel_rfl) (by kernel_rfl) (by kernel_rfl) (fun _ _ _ h => h) (yieldsIf_load_at (by rfl) _ _ rfl ⟨g9, 0, none⟩ rfl X _ (fun _ h => h) (by assumption) rfl HCL.out) (by assumption) ?_; (try simp only [Act.put, List.getElem_toArray, List.getElem_cons_zero, List.getElem_cons_succ, List.setIfInBounds_toArray, List.set_cons_zero, List.set_cons_succ]))
                (refine wpAnyH_ready (rs := [2]) (by kernel_rfl) (by simp) (AllReadyH.cons rfl (fun K hK => ?_) AllReadyH.nil); go_simp)
                refine (HRT.out _ (below_drew1 (Below.refl _ _))).mono ?_
                rintro e wa ⟨rfl, hb⟩
                have hb2 := below_drew_of hb
                have HLa := Aside0.mk (left_below HL9.out hb2)
                have HZa := Aside0.mk (blk_below HZ9.out hb2)
                have HYa := Aside0.mk (Kd.R_below HY9.out hb2)
                have HAa := Aside0.mk (HA9.out.below hb2)
                clear hb hb2
                (refine Shut.out hK _ _ HAa.out (fun hHeld => ?_); clear hK K; (try simp only [Act.put, List.getElem_toArray, List.getElem_cons_zero, List.getElem_cons_succ, List.setIfInBounds_toArray, List.set_cons_zero, List.set_cons_succ]))
                refine wpAnyH_ready (rs := [3]) (by kernel_rfl) (by simp) (AllReadyH.cons rfl (fun K hK => ?_) AllReadyH.nil)
                rw [if_pos (by rfl)]
                refine wp_store_row 27 (.tmp 6) (.tmp 36) rfl (w.heap.size + 1) X.toArray rfl rfl 27 zE.toArray HZa.out (by rw [List.size_toArray]; exact HCL.out) (by rw [List.size_toArray, List.size_toArray, zE_len]; have h := HCL.out; rw [info_ent] at h; injection h) HXO.out ?_
                have hg := grown_setRow wa (w.heap.size + 1) X.toArray
                have HSR := Aside0.mk (setRow_heap wa (w.heap.size + 1) zE.toArray X.toArray _ _ HZa.out)
                have HLb := Aside0.mk (left_grown HLa.out (below_setRow (Below.refl _ _) (Nat.le_succ _) _) hg (fun b_ e => by injection e with e; subst e; have := HG.out; exact ⟨by omega, by omega⟩) HG.out.2)
                have HYb := Aside0.mk (Kd.R_grown HYa.out hg (fun k hk e => hk.2 (by injection e)))
                have HAb := Aside0.mk (atC_step HAa.out (grown_keep hg) (by have := HN9.out; dsimp only; omega))
                obtain ⟨wb, hw_⟩ : ∃ W_, wa.setRow (w.heap.size + 1) X.toArray = W_ := ⟨_, rfl⟩
                rw [hw_] at HSR HLb HYb HAb
                rw [hw_]
                clear hw_ hg
                (refine Shut.out hK _ _ HAb.out (fun hHeld => ?_); clear hK K; (try simp only [Act.put, List.getElem_toArray, List.getElem_cons_zero, List.getElem_cons_succ, List.setIfInBounds_toArray, List.set_cons_zero, List.set_cons_succ]))
                (refine wpAnyH_take (i := 4) (v := ?_) rfl (by kernel_rfl) (by kernel_rfl) (by kernel_rfl) (fun _ _ _ h => h) (Or.inl ⟨by rfl, ?_⟩) (by assumption) ?_; (case' refine_2 => (intro w hSw; go_simp; try with_reducible rfl)); (try simp only [Act.put, List.getElem_toArray, List.getElem_cons_zero, List.getElem_cons_succ, List.setIfInBounds_toArray, List.set_cons_zero, List.set_cons_succ]))
                refine wpAnyH_done (by kernel_rfl) ?_ _
                go_wp2_with (fail)
                refine bodyPost_ret (results_ct rfl _ _ (w.heap.size + 1) 27 X.toArray (0, 0) _ rfl HSR.out Try.underlying27 rfl (by rw [List.size_toArray]; exact HCL.out)) rfl ?_
                rw [HE2.out]
                cases rb with
                | true =>
                  rw [if_pos rfl]
                  obtain ⟨_, m9_, r9_⟩ := Kd.R_reads' HYb.out
                  exact ⟨P, C, AY, cY, by rw [← HXX.out]; first | done | rfl, ⟨HPC.out.1, HPC.out.2, m9_, r9_⟩, Kd.R_mono HYb.out (fun _ _ => trivial), HLb.out⟩
                | false =>
                  rw [if_neg Bool.false_ne_true]
                  exact ⟨X, _, rfl, by have h := HCL.out; rw [info_ent] at h; injection h with h; exact h.symm, HXO.out, HLb.out⟩
              · have q2 : (f == 1) = false := by simp [hf]
                rw [decide_eq_false hf] at HE
                clear hf
                have HX9 := Aside0.mk (blk_set HX8.out 67 (.bool false))
                rw [List.setIfInBounds_toArray, set_flag sq sl P C HLP.out.1 HLP.out.2] at HX9
                have HL9 := Aside0.mk (left_grown HL8.out (show Below w.heap.size w8 (w8.setCell ⟨g9, 67, none⟩ (.bool false)) from ⟨rfl, rfl, rfl, by simp [World.setCell], fun k hk => Below.heap_setCell w8 ⟨g9, 67, none⟩ (.bool false) k (by have := HN9.out; dsimp only; omega)⟩) (grown_setCell w8 g9 67 (.bool false)) (fun b_ e => by injection e with e; subst e; have := HG.out; have := HN9.out; exact ⟨by omega, by omega⟩) HG.out.2)
                have HZ9 := Aside0.mk (show (w8.setCell ⟨g9, 67, none⟩ (.bool false)).heap[w.heap.size + 1]? = some (.cells zE.toArray 27 (0, 0)) from (grown_setCell w8 g9 67 (.bool false)).block (w.heap.size + 1) (blk_lt HZ8.out) (fun e => by injection e with e; have := HN9.out; omega) |>.trans HZ8.out)
                have HY9 := Aside0.mk (Kd.R_grown HY8.out (grown_setCell w8 g9 67 (.bool false)) (fun k hk e => hk.1 (by injection e)))
                have c67 : w8.cell? ⟨g9, 67, none⟩ = some (.bool false) := (entAt_blk (x := (sq, pv, cm, sl, py, false)) HLP.out.1 HLP.out.2 HX8.out).r
                have f67 := blk_frozen HX8.out 67
                go_upto_region 6 with (fail)
                obtain ⟨w9, hw_⟩ : ∃ W_, w8.setCell ⟨g9, 67, none⟩ (.bool false) = W_ := ⟨_, rfl⟩
                rw [hw_] at HX9 HL9 HZ9 HY9
                rw [hw_]
                clear hw_
                obtain ⟨m9_, r9_⟩ := (Kd.R_reads' HY9.out).2
                have HC9 := Aside0.mk (show EntC w9 (sq, pv, cm, sl, py, false) P C AY cY from ⟨HPC.out.1, HPC.out.2, m9_, r9_⟩)
                clear m9_ r9_
                have HRT := Aside0.mk (fun V (hV : Below w9.heap.size w9 V) => right1_c (sq, pv, cm, sl, py, false) (HEU.out false) (HPL.out) P C AY cY V (HC9.out.below hV))
                unfold RetB at HRT
                have HA9 := Aside0.mk (atC_blk HX9.out)
                have HAV := Aside0.mk (fun V (hV : Below w9.heap.size w9 V) => HA9.out.below hV)
                have HCL := Aside0.mk (show (Try.prog.info? 27).map (·.size) = some (cellsE sq P C sl AY py.length cY false).length from HC9.out.info)
                have HE2 := Aside0.mk (show readE st sq pv = if rightT (sq, pv, cm, sl, py, false) then some ((sq, pv, cm, sl, py, false), r4) else none from HE.out)
                obtain ⟨rb, hrb⟩ : ∃ t, rightT (sq, pv, cm, sl, py, false) = t := ⟨_, rfl⟩
                rw [hrb] at HRT HE2
                clear hrb
                obtain ⟨X, hX⟩ : ∃ t, cellsE sq P C sl AY py.length cY false = t := ⟨_, rfl⟩
                have HXX := Aside0.mk hX
                have HRT := Aside0.mk (fun V hV => show Calls Try.prog 54 #[.agg (cellsE sq P C sl AY py.length cY false).toArray] V _ from HRT.out V hV)
                rw [hX] at HX9 HA9 HAV HCL HRT
                have HXO := Aside0.mk (show X.toArray.all (·.oneCell') = true from by rw [← HXX.out]; exact HC9.out.one)
                clear hX
                refine wp_region_held_drew (S := fun V => AtC V ⟨g9, 0, none⟩ X) (by kernel_rfl) (HAV.out _ (below_drew1 (Below.refl _ _))) (fun hHeld => ?_)
                (refine wpAnyH_take (i := 0) rfl (by kernel_rfl) (by kernel_rfl) (by kernel_rfl) (fun _ _ _ h => h) (yieldsIf_load_at (by rfl) _ _ rfl ⟨g9, 0, none⟩ rfl X _ (fun _ h => h) (by assumption) rfl HCL.out) (by assumption) ?_; (try simp only [Act.put, List.getElem_toArray, List.getElem_cons_zero, List.getElem_cons_succ, List.setIfInBounds_toArray, List.set_cons_zero, List.set_cons_succ]))
                (refine wpAnyH_take (i := 1) rfl (by kernel_rfl) (by kernel_rfl) (by kernel_rfl) (fun _ _ _ h => h) (yieldsIf_load_at (by rfl) _ _ rfl ⟨g9, 0, none⟩ rfl X _ (fun _ h => h) (by assumption) rfl HCL.out) (by assumption) ?_; (try simp only [Act.put, List.getElem_toArray, List.getElem_cons_zero, List.getElem_cons_succ, List.setIfInBounds_toArray, List.set_cons_zero, List.set_cons_succ]))
                (refine wpAnyH_ready (rs := [2]) (by kernel_rfl) (by simp) (AllReadyH.cons rfl (fun K hK => ?_) AllReadyH.nil); go_simp)
                refine (HRT.out _ (below_drew1 (Below.refl _ _))).mono ?_
                rintro e wa ⟨rfl, hb⟩
                have hb2 := below_drew_of hb
                have HLa := Aside0.mk (left_below HL9.out hb2)
                have HZa := Aside0.mk (blk_below HZ9.out hb2)
                have HYa := Aside0.mk (Kd.R_below HY9.out hb2)
                have HAa := Aside0.mk (HA9.out.below hb2)
                clear hb hb2
                (refine Shut.out hK _ _ HAa.out (fun hHeld => ?_); clear hK K; (try simp only [Act.put, List.getElem_toArray, List.getElem_cons_zero, List.getElem_cons_succ, List.setIfInBounds_toArray, List.set_cons_zero, List.set_cons_succ]))
                refine wpAnyH_ready (rs := [3]) (by kernel_rfl) (by simp) (AllReadyH.cons rfl (fun K hK => ?_) AllReadyH.nil)
                rw [if_pos (by rfl)]
                refine wp_store_row 27 (.tmp 6) (.tmp 36) rfl (w.heap.size + 1) X.toArray rfl rfl 27 zE.toArray HZa.out (by rw [List.size_toArray]; exact HCL.out) (by rw [List.size_toArray, List.size_toArray, zE_len]; have h := HCL.out; rw [info_ent] at h; injection h) HXO.out ?_
                have hg := grown_setRow wa (w.heap.size + 1) X.toArray
                have HSR := Aside0.mk (setRow_heap wa (w.heap.size + 1) zE.toArray X.toArray _ _ HZa.out)
                have HLb := Aside0.mk (left_grown HLa.out (below_setRow (Below.refl _ _) (Nat.le_succ _) _) hg (fun b_ e => by injection e with e; subst e; have := HG.out; exact ⟨by omega, by omega⟩) HG.out.2)
                have HYb := Aside0.mk (Kd.R_grown HYa.out hg (fun k hk e => hk.2 (by injection e)))
                have HAb := Aside0.mk (atC_step HAa.out (grown_keep hg) (by have := HN9.out; dsimp only; omega))
                obtain ⟨wb, hw_⟩ : ∃ W_, wa.setRow (w.heap.size + 1) X.toArray = W_ := ⟨_, rfl⟩
                rw [hw_] at HSR HLb HYb HAb
                rw [hw_]
                clear hw_ hg
                (refine Shut.out hK _ _ HAb.out (fun hHeld => ?_); clear hK K; (try simp only [Act.put, List.getElem_toArray, List.getElem_cons_zero, List.getElem_cons_succ, List.setIfInBounds_toArray, List.set_cons_zero, List.set_cons_succ]))
                (refine wpAnyH_take (i := 4) (v := ?_) rfl (by kernel_rfl) (by kernel_rfl) (by kernel_rfl) (fun _ _ _ h => h) (Or.inl ⟨by rfl, ?_⟩) (by assumption) ?_; (case' refine_2 => (intro w hSw; go_simp; try with_reducible rfl)); (try simp only [Act.put, List.getElem_toArray, List.getElem_cons_zero, List.getElem_cons_succ, List.setIfInBounds_toArray, List.set_cons_zero, List.set_cons_succ]))
                refine wpAnyH_done (by kernel_rfl) ?_ _
                go_wp2_with (fail)
                refine bodyPost_ret (results_ct rfl _ _ (w.heap.size + 1) 27 X.toArray (0, 0) _ rfl HSR.out Try.underlying27 rfl (by rw [List.size_toArray]; exact HCL.out)) rfl ?_
                rw [HE2.out]
                cases rb with
                | true =>
                  rw [if_pos rfl]
                  obtain ⟨_, m9_, r9_⟩ := Kd.R_reads' HYb.out
                  exact ⟨P, C, AY, cY, by rw [← HXX.out]; first | done | rfl, ⟨HPC.out.1, HPC.out.2, m9_, r9_⟩, Kd.R_mono HYb.out (fun _ _ => trivial), HLb.out⟩
                | false =>
                  rw [if_neg Bool.false_ne_true]
                  exact ⟨X, _, rfl, by have h := HCL.out; rw [info_ent] at h; injection h with h; exact h.symm, HXO.out, HLb.out⟩
end Go.Proofs.Ytfpkgdenohcglaa.Chn
/- The walks of the document's reader. -/
namespace Go.Proofs.Ytfpkgdenohcglaa.Rf
open Go.Proofs.Ytfpkgdenohcglaa.Base Go.Proofs.Ytfpkgdenohcglaa.TlvPlain Go.Proofs.Ytfpkgdenohcglaa.Lo Go.RowKit Go.Proofs.YtfpkgdenohcglaaW.PrintWords Go.Proofs.YtfpkgdenohcglaaW.PrintLast Go.Proofs.YtfpkgdenohcglaaW.PrintMore

/-- A cut of bytes, and in which block it lies. -/
theorem cut2 {P : Program} (t e : TypeId) (kl : IntKind) {i : TypeInfo} (ht : P.underlying t = some (.slice e)) (hi : P.info? e = some i) (hsz : i.size = 1) (A : Option Addr) (n c m : Nat) (hm : m ≤ n) :
    ∃ A' : Option Addr, (∀ W : World, (Instr.slice t (.slice A n c) (some (.int kl (m : Int))) none none).run P W = .ok (.slice A' (n - m) (c - m)) W) ∧
      (∀ (w : World) (k : IntKind) (xs : List Int), n ≤ c → ReadsInt w k A n xs → ReadsInt w k A' (n - m) (xs.drop m)) ∧ (∀ ad', A' = some ad' → ∃ ad, A = some ad ∧ ad'.block = ad.block) := by
  refine ⟨if c = m then A else A.map (·.add m), fun W => ?_, fun w k xs hc h => h.drop_ m hm hc, fun ad' h => ?_⟩
  · have hel : P.elem t = e := by simp [Program.elem, ht]
    have hu : P.underlying t = some (.slice (P.elem t)) := by rw [hel]; exact ht
    rw [run_slice_l W t A n c hu kl (m : Int) (Int.natCast_nonneg _) (by omega), hel]
    simp [sizeOf, typeInfo, hi, hsz, sliced, Result.andThen]
  · split at h
    · exact ⟨ad', h, rfl⟩
    · obtain ⟨ad, h1, rfl⟩ := Option.map_eq_some_iff.1 h
      exact ⟨ad, h1, by unfold Addr.add; split <;> rfl⟩
/-- The document's reader at block g: the bytes that are left, and whether it failed. -/
def Rdr (w0 W : World) (g : Nat) (failed : Bool) (bs : List Int) : Prop :=
  w0.heap.size ≤ g ∧ ∃ A c, W.heap[g]? = some (.cells #[.slice A bs.length c, .bool failed] 102 (0, 0)) ∧ bs.length ≤ c ∧ Rb W A bs ∧ bs.length < 140737488355328 ∧ U8 bs ∧ ∀ ad, A = some ad → ad.block < g
theorem Rdr.lower {w0 w1 W : World} {g : Nat} {f : Bool} {bs : List Int} (h : Rdr w1 W g f bs) (hs : w0.heap.size ≤ w1.heap.size) : Rdr w0 W g f bs := ⟨Nat.le_trans hs h.1, h.2⟩
theorem cells_no_int {f : Bool} {A : Option Addr} {n c : Nat} (i : Nat) (v : Value) (h : (#[.slice A n c, Value.bool f] : Array Value)[i]? = some v) (k : Int) : v ≠ .int .u8 k := by
  match i, h with
  | 0, h => cases h; simp
  | 1, h => cases h; simp
theorem Rdr.below {w0 W W1 : World} {g : Nat} {f : Bool} {bs : List Int} (h : Rdr w0 W g f bs) (hb : Below W.heap.size W W1) : Rdr w0 W1 g f bs := by
  obtain ⟨h0, A, c, h1, h2, h3, h4⟩ := h
  exact ⟨h0, A, c, (hb.block g (blk_lt h1)).trans h1, h2, Kd.C_below h3 hb, h4⟩
/-- Where another block alone was written, in which no numbers lie. -/
theorem Rdr.keep {w0 W W1 : World} {g g' : Nat} {f : Bool} {bs : List Int} (h : Rdr w0 W g f bs) (hk : KeepBut W W1 g' none) (hne : g ≠ g') {T : Nat} {cs : Array Value} (hb : W.heap[g']? = some (.cells cs T (0, 0))) (hcs : ∀ i : Nat, ∀ v, cs[i]? = some v → ∀ n, v ≠ Value.int .u8 n) : Rdr w0 W1 g f bs := by
  obtain ⟨h0, A, c, h1, h2, h3, h4⟩ := h
  exact ⟨h0, A, c, hk.blk h1 hne (by simp), h2, reads_keep h3 hk (reads_ne hb hcs h3), h4⟩
theorem Rdr.grown {w0 W W1 : World} {g : Nat} {f : Bool} {bs : List Int} {row : Option Nat} (h : Rdr w0 W g f bs) (hg : W.grownBy W1 row) (hr : ∀ b, row = some b → g < b) : Rdr w0 W1 g f bs := by
  obtain ⟨h0, A, c, h1, h2, h3, h4⟩ := h
  have hne : some g ≠ row := fun e => Nat.lt_irrefl g (hr g e.symm)
  refine ⟨h0, A, c, blk_grown h1 hg hne, h2, ?_, h4⟩
  cases row with
  | none => exact reads_keep h3 (KeepBut.of_grown hg W.heap.size) (fun ad e _ => by have := h4.2.2 ad e; have := blk_lt h1; omega)
  | some q =>
    have hk : KeepBut W W1 q none := ⟨hg.size, fun i hi h1 _ => hg.block i hi (fun e => h1 (Option.some.inj e))⟩
    exact reads_keep h3 hk (fun ad e _ => by have := h4.2.2 ad e; have := hr q rfl; omega)
theorem Rdr.set {w0 W : World} {g : Nat} {f : Bool} {bs : List Int} (h : Rdr w0 W g f bs) (f' : Bool) : Rdr w0 (W.setCell ⟨g, 1, none⟩ (.bool f')) g f' bs := by
  obtain ⟨h0, A, c, h1, h2, h3, h4⟩ := h
  exact ⟨h0, A, c, by simpa using blk_set h1 1 (.bool f'), h2, reads_keep h3 (keep_set _ _ _ _) (reads_ne h1 cells_no_int h3), h4⟩
theorem Rdr.cut {w0 W : World} {g : Nat} {f : Bool} {bs cs : List Int} (h : Rdr w0 W g f bs) {A' : Option Addr} {c' : Nat} (hc : cs.length ≤ c') (hr : Rb W A' cs) (hl : cs.length ≤ bs.length) (hu : U8 cs) (hbl : ∀ ad, A' = some ad → ad.block < g) : Rdr w0 (W.setCell ⟨g, 0, none⟩ (.slice A' cs.length c')) g f cs := by
  obtain ⟨h0, A, c, h1, h2, h3, h4⟩ := h
  exact ⟨h0, A', c', by simpa using blk_set h1 0 (.slice A' cs.length c'), hc, reads_keep hr (keep_set _ _ _ _) (reads_ne h1 cells_no_int hr), Nat.lt_of_le_of_lt hl h4.1, hu, hbl⟩

/-- The reader's state: the bytes that are left, or that it failed. -/
def RfO (w0 W : World) (g : Nat) (st : Option (List Int)) : Prop :=
  match st with
  | some bs => Rdr w0 W g false bs
  | none => ∃ bs, Rdr w0 W g true bs
theorem RfO.any {w0 W : World} {g : Nat} {st : Option (List Int)} (h : RfO w0 W g st) : ∃ bs, Rdr w0 W g (!st.isSome) bs := by
  cases st with
  | some bs => exact ⟨bs, h⟩
  | none => exact h
theorem RfO.below {w0 W W1 : World} {g : Nat} {st : Option (List Int)} (h : RfO w0 W g st) (hb : Below W.heap.size W W1) : RfO w0 W1 g st := by
  cases st with
  | some bs => exact Rdr.below h hb
  | none => obtain ⟨bs, h⟩ := h; exact ⟨bs, h.below hb⟩
theorem RfO.keep {w0 W W1 : World} {g g' : Nat} {st : Option (List Int)} (h : RfO w0 W g st) (hk : KeepBut W W1 g' none) (hne : g ≠ g') {T : Nat} {cs : Array Value} (hb : W.heap[g']? = some (.cells cs T (0, 0))) (hcs : ∀ i : Nat, ∀ v, cs[i]? = some v → ∀ n, v ≠ Value.int .u8 n) : RfO w0 W1 g st := by
  cases st with
  | some bs => exact Rdr.keep h hk hne hb hcs
  | none => obtain ⟨bs, h⟩ := h; exact ⟨bs, h.keep hk hne hb hcs⟩
theorem RfO.grown {w0 W W1 : World} {g : Nat} {st : Option (List Int)} {row : Option Nat} (h : RfO w0 W g st) (hg : W.grownBy W1 row) (hr : ∀ b, row = some b → g < b) : RfO w0 W1 g st := by
  cases st with
  | some bs => exact Rdr.grown h hg hr
  | none => obtain ⟨bs, h⟩ := h; exact ⟨bs, h.grown hg hr⟩
theorem RfO.lower {w0 w1 W : World} {g : Nat} {st : Option (List Int)} (h : RfO w1 W g st) (hs : w0.heap.size ≤ w1.heap.size) : RfO w0 W g st := by
  cases st with
  | some bs => exact Rdr.lower h hs
  | none => obtain ⟨bs, h⟩ := h; exact ⟨bs, h.lower hs⟩
theorem RfO.blk {w0 W : World} {g : Nat} {st : Option (List Int)} (h : RfO w0 W g st) : w0.heap.size ≤ g ∧ g < W.heap.size ∧ ∃ cs, W.heap[g]? = some (.cells cs 102 (0, 0)) ∧ ∀ i : Nat, ∀ v, cs[i]? = some v → ∀ n, v ≠ Value.int .u8 n := by
  obtain ⟨bs, h0, A, c, h1, _⟩ := h.any
  exact ⟨h0, blk_lt h1, _, h1, cells_no_int⟩
theorem RfO.u8 {w0 W : World} {g : Nat} {bs : List Int} (h : RfO w0 W g (some bs)) : U8 bs ∧ bs.length < 140737488355328 := by
  obtain ⟨_, _, _, _, _, _, h1, h2⟩ := (show Rdr w0 W g false bs from h)
  exact ⟨h2.1, h1⟩
/-- What its field Fail reads as. -/
theorem RfO.fail {w0 W : World} {g : Nat} {st : Option (List Int)} (h : RfO w0 W g st) : W.cell? ⟨g, 1, none⟩ = some (.bool (!st.isSome)) ∧ W.frozen? ⟨g, 1, none⟩ = false := by
  obtain ⟨bs, _, A, c, h1, _⟩ := h.any
  exact ⟨(blk_cell h1 1).trans rfl, blk_frozen h1 1⟩
/-- What its field B reads as. -/
theorem RfO.bytes {w0 W : World} {g : Nat} {bs : List Int} (h : RfO w0 W g (some bs)) : ∃ A c, W.cell? ⟨g, 0, none⟩ = some (.slice A bs.length c) ∧ bs.length ≤ c ∧ Rb W A bs := by
  obtain ⟨_, A, c, h1, h2, h3, _⟩ := (show Rdr w0 W g false bs from h)
  exact ⟨A, c, (blk_cell h1 0).trans rfl, h2, h3⟩
theorem RfO.set {w0 W : World} {g : Nat} {st : Option (List Int)} (h : RfO w0 W g st) : RfO w0 (W.setCell ⟨g, 1, none⟩ (.bool true)) g none := by
  obtain ⟨bs, h⟩ := h.any
  exact ⟨bs, h.set true⟩
/-- What a call that is handed a reader leaves. -/
def Left (w0 w w' : World) (g : Nat) (st : Option (List Int)) : Prop := RfO w0 w' g st ∧ Below w0.heap.size w0 w' ∧ KeepBut w w' g none
theorem Left.trans {w0 w w1 w2 : World} {g : Nat} {s1 s2 : Option (List Int)} (h : Left w0 w w1 g s1) (k : Left w0 w1 w2 g s2) : Left w0 w w2 g s2 := ⟨k.1, k.2.1, h.2.2.trans k.2.2 (.inl rfl)⟩
theorem Left.set {w0 w w' : World} {g : Nat} {st : Option (List Int)} (h : Left w0 w w' g st) : Left w0 w (w'.setCell ⟨g, 1, none⟩ (.bool true)) g none := ⟨h.1.set, below_set h.2.1 h.1.blk.1, h.2.2.set_ 1 _⟩

set_option maxHeartbeats 1600000 in
set_option maxRecDepth 100000 in
theorem take_bad (w0 w : World) (g : Nat) (f : Bool) (bs : List Int) (n : Int) (h : Rdr w0 w g f bs) (hB : Below w0.heap.size w0 w) (hbad : ¬ (f = false ∧ 0 ≤ n ∧ n ≤ bs.length)) :
    Calls Try.prog 73 #[.pointer (some ⟨g, 0, none⟩), .int .i64 n] w fun e w' => ∃ v, e = .returned v ∧ Ob w' w.heap.size v [] ∧ Left w0 w w' g none := by
  have HB := Aside0.mk hB
  clear hB
  have hfin : Left w0 w (w.setCell ⟨g, 1, none⟩ (.bool true)) g none := ⟨⟨bs, h.set true⟩, below_set HB.out h.1, keep_set _ _ _ _⟩
  have HF := Aside0.mk hfin
  clear hfin
  obtain ⟨_, A, c, h1, _⟩ := h
  have hc0 : w.cell? ⟨g, 0, none⟩ = some (.slice A bs.length c) := (blk_cell h1 0).trans rfl
  have hc1 : w.cell? ⟨g, 1, none⟩ = some (.bool f) := (blk_cell h1 1).trans rfl
  have hf1 := blk_frozen h1 1
  clear h1
  cases f with
  | false =>
    by_cases hn : n < 0
    · have hd : decide (n < 0) = true := decide_eq_true hn
      clear hbad hn
      go_enter Try.func73, Try.ntmps73
      go_wp2
      go_ret
      exact ⟨_, rfl, Kd.R_nil _ _ _ _ _, HF.out⟩
    · have hd : decide (n < 0) = false := decide_eq_false hn
      have hg : decide ((bs.length : Int) < n) = true := decide_eq_true (by
        by_cases h2 : (bs.length : Int) < n
        · exact h2
        · exact absurd ⟨rfl, by omega, by omega⟩ hbad)
      clear hbad hn
      go_enter Try.func73, Try.ntmps73
      go_wp2
      go_ret
      exact ⟨_, rfl, Kd.R_nil _ _ _ _ _, HF.out⟩
  | true =>
    clear hbad
    go_enter Try.func73, Try.ntmps73
    go_wp2
    go_ret
    exact ⟨_, rfl, Kd.R_nil _ _ _ _ _, HF.out⟩

set_option maxHeartbeats 1600000 in
set_option maxRecDepth 100000 in
theorem take_good (w0 w : World) (g : Nat) (bs : List Int) (n : Nat) (h : Rdr w0 w g false bs) (hB : Below w0.heap.size w0 w) (hn : n ≤ bs.length) :
    Calls Try.prog 73 #[.pointer (some ⟨g, 0, none⟩), .int .i64 n] w fun e w' => ∃ v, e = .returned v ∧ Ob w' w.heap.size v (bs.take n) ∧ Left w0 w w' g (some (bs.drop n)) := by
  have HI := Aside0.mk h
  have HB := Aside0.mk hB
  clear hB
  obtain ⟨hg0, A, c, h1, h2, h3, h4⟩ := h
  have hnn : (0 : Int) ≤ (n : Int) := Int.natCast_nonneg _
  have hnc : (n : Int) ≤ (c : Int) := by omega
  have hd0 : decide ((n : Int) < 0) = false := decide_eq_false (by omega)
  have hd1 : decide ((bs.length : Int) < (n : Int)) = false := decide_eq_false (by omega)
  have hd2 : decide (bs.length < n) = false := decide_eq_false (by omega)
  have hc0 : w.cell? ⟨g, 0, none⟩ = some (.slice A bs.length c) := (blk_cell h1 0).trans rfl
  have hc1 : w.cell? ⟨g, 1, none⟩ = some (.bool false) := (blk_cell h1 1).trans rfl
  have hf0 := blk_frozen h1 0
  have HGL := Aside0.mk (blk_lt h1)
  have h3' := Kd.reads_of_C (d := (0 : Int)) h3
  have hlen : bs.length ≤ 9223372036854775807 := h3'.2.1
  obtain ⟨i0, hi, hz0, hz1, hz2⟩ := info_parts info_u8
  obtain ⟨A', hcut, hA', hbk⟩ := cut2 (P := Try.prog) 25 5 .i64 Try.underlying25 hi hz1 A bs.length c n hn
  have hrest : Rb w A' (bs.drop n) := by
    have := Kd.C_of_reads (d := (0 : Int)) (h1 := fun _ => rfl) (hA' w .u8 bs h2 h3')
    rwa [← List.length_drop] at this
  have hfirst : Rb w A (bs.take n) := by
    have h5 := Kd.C_of_reads (d := (0 : Int)) (h1 := fun _ => rfl) (ReadsInt.take_ h3' n hn)
    show Kd.C _ w A (bs.take n).length (bs.take n)
    rw [show (bs.take n).length = n from by rw [List.length_take]; omega]
    exact h5
  have HREST := Aside0.mk hrest
  have HFIRST := Aside0.mk hfirst
  have HU := Aside0.mk (h4.2.1.drop n)
  have HBK := Aside0.mk (show ∀ ad, A' = some ad → ad.block < g from fun ad' e => by obtain ⟨ad, e2, e3⟩ := hbk ad' e; rw [e3]; exact h4.2.2 ad e2)
  have HTL := Aside0.mk (show (bs.take n).length = n by rw [List.length_take]; omega)
  have HBL := Aside0.mk (show n < 140737488355328 by have := h4.1; omega)
  have HNC := Aside0.mk (show n ≤ c by omega)
  have HDL := Aside0.mk (show (bs.drop n).length ≤ c - n ∧ (bs.drop n).length ≤ bs.length by rw [List.length_drop]; omega)
  clear hrest hfirst h1 h3 h4 hA' hbk h3' hi hz0 hz1 hz2 hg0
  go_enter Try.func73, Try.ntmps73
  go_wp2_with (go_at_call 52; refine (copy_n A c n (bs.take n) _ HFIRST.out HTL.out HNC.out HBL.out).mono ?_; rintro e w1 ⟨v, rfl, ho, hb⟩; have HO := Aside0.mk ho; have HW := Aside0.mk hb; have hd0' := (hb.cell (p := ⟨g, 0, none⟩) HGL.out).trans hc0; have hf0' := (hb.frozen (p := ⟨g, 0, none⟩) HGL.out).trans hf0; clear ho hb hc0 hc1 hf0)
  go_ret
  have hR := ((HI.out.below HW.out).cut HDL.out.1 (Kd.C_below HREST.out HW.out) HDL.out.2 HU.out HBK.out)
  rw [List.length_drop] at hR
  refine ⟨_, rfl, Kd.R_mono (Kd.R_far (Kd.R_bound HO.out) (p := ⟨g, 0, none⟩) (fun k hk e => ?_) _) (fun _ _ => trivial), hR, below_set (HB.out.trans (HW.out.mono HB.out.size)) HI.out.1, (KeepBut.of_below HW.out g none).set_ 0 _⟩
  have h1 := hk.2.1
  have h2 := HGL.out
  dsimp only at e
  omega

theorem takeO_ (w0 w : World) (g : Nat) (st : Option (List Int)) (n : Int) (h : RfO w0 w g st) (hB : Below w0.heap.size w0 w) :
    Calls Try.prog 73 #[.pointer (some ⟨g, 0, none⟩), .int .i64 n] w fun e w' => ∃ v, e = .returned v ∧ Ob w' w.heap.size v (takeO st n).1 ∧ Left w0 w w' g (takeO st n).2 := by
  cases st with
  | some bs =>
    by_cases hn : 0 ≤ n ∧ n ≤ bs.length
    · obtain ⟨m, rfl⟩ := Int.eq_ofNat_of_zero_le hn.1
      have e : takeO (some bs) (m : Int) = (bs.take m, some (bs.drop m)) := by simp only [takeO]; rw [if_pos hn]; rfl
      rw [e]
      exact take_good w0 w g bs m h hB (by omega)
    · have e : takeO (some bs) n = ([], none) := by simp only [takeO]; rw [if_neg hn]
      rw [e]
      exact take_bad w0 w g false bs n h hB (fun h => hn h.2)
  | none =>
    obtain ⟨bs, h⟩ := h
    exact take_bad w0 w g true bs n h hB (fun h => by cases h.1)
theorem take1_cons (x : Int) (r : List Int) : takeO (some (x :: r)) 1 = ([x], some r) := by
  simp only [takeO]
  rw [if_pos (by rw [List.length_cons]; omega)]
  rfl

set_option maxHeartbeats 1600000 in
set_option maxRecDepth 100000 in
theorem num_none (w0 w : World) (g : Nat) (st : Option (List Int)) (h : RfO w0 w g st) (hB : Below w0.heap.size w0 w) (hst : takeO st 1 = ([], none)) :
    Calls Try.prog 81 #[.pointer (some ⟨g, 0, none⟩)] w fun e w' => e = .returned (.int .u64 0) ∧ Left w0 w w' g none := by
  have HS := Aside0.mk h
  have HB := Aside0.mk hB
  have E1 := Aside0.mk hst
  clear h hB hst
  go_enter Try.func81, Try.ntmps81
  go_wp2_with (first
    | (go_at_call 73; refine (takeO_ _ _ _ _ _ HS.out HB.out).mono ?_; rintro e w1 ⟨v, rfl, ho, hl⟩; rw [E1.out] at ho hl; have HL := Aside0.mk hl; have hc1 : w1.cell? ⟨g, 1, none⟩ = some (.bool true) := hl.1.fail.1; have hf1 := hl.1.fail.2; clear ho hl))
  go_ret
  exact ⟨rfl, HL.out.set⟩

set_option maxHeartbeats 1600000 in
set_option maxRecDepth 100000 in
theorem num_wide (w0 w : World) (g : Nat) (x : Int) (r : List Int) (h : RfO w0 w g (some (x :: r))) (hB : Below w0.heap.size w0 w) (hx : 8 < x) :
    Calls Try.prog 81 #[.pointer (some ⟨g, 0, none⟩)] w fun e w' => e = .returned (.int .u64 0) ∧ Left w0 w w' g none := by
  have HS := Aside0.mk h
  have HB := Aside0.mk hB
  have E1 := Aside0.mk (take1_cons x r)
  have hd : decide (8 < x) = true := decide_eq_true hx
  clear h hB hx
  go_enter Try.func81, Try.ntmps81
  go_wp2_with (first
    | (go_at_call 73; refine (takeO_ _ _ _ _ _ HS.out HB.out).mono ?_; rintro e w1 ⟨v, rfl, ho, hl⟩; rw [E1.out] at ho hl; have HL := Aside0.mk hl; have hc1 : w1.cell? ⟨g, 1, none⟩ = some (.bool false) := hl.1.fail.1; have hf1 := hl.1.fail.2; obtain ⟨A, c, rfl, hlc, hrd⟩ := Ob.reads ho; obtain ⟨ad, rfl, hc0⟩ := Rb.at0 hrd; clear ho hl hrd hlc))
  go_ret
  exact ⟨rfl, HL.out.set⟩

set_option maxHeartbeats 1600000 in
set_option maxRecDepth 100000 in
theorem num_short (w0 w : World) (g : Nat) (x : Int) (r : List Int) (h : RfO w0 w g (some (x :: r))) (hB : Below w0.heap.size w0 w) (hx0 : 0 ≤ x) (hx : x ≤ 8) (hl : (r.length : Int) < x) :
    Calls Try.prog 81 #[.pointer (some ⟨g, 0, none⟩)] w fun e w' => e = .returned (.int .u64 0) ∧ Left w0 w w' g none := by
  have HS := Aside0.mk h
  have HB := Aside0.mk hB
  have E1 := Aside0.mk (take1_cons x r)
  have E2 := Aside0.mk (show takeO (some r) x = ([], none) by simp only [takeO]; rw [if_neg (by omega)])
  have hd : decide (8 < x) = false := decide_eq_false (by omega)
  clear h hB hl
  go_enter Try.func81, Try.ntmps81
  go_wp2_with (fail)
  refine (takeO_ _ _ _ _ _ HS.out HB.out).mono ?_; rintro e w1 ⟨v, rfl, ho, hl⟩; rw [E1.out] at ho hl; have HL := Aside0.mk hl; have hc1 : w1.cell? ⟨g, 1, none⟩ = some (.bool false) := hl.1.fail.1; obtain ⟨A, c, rfl, hlc, hrd⟩ := Ob.reads ho; obtain ⟨ad, rfl, hc0⟩ := Rb.at0 hrd; clear ho hl hrd hlc
  go_wp2_with (fail)
  refine (takeO_ _ _ _ _ _ HL.out.1 HL.out.2.1).mono ?_; rintro e w2 ⟨v, rfl, ho, hl⟩; rw [E2.out] at ho hl; have HL2 := Aside0.mk (HL.out.trans hl); have hc2 : w2.cell? ⟨g, 1, none⟩ = some (.bool true) := hl.1.fail.1; have hf2 := hl.1.fail.2; clear HL ho hl hc1 hc0
  go_wp2
  go_ret
  exact ⟨rfl, HL2.out.set⟩

set_option maxHeartbeats 1600000 in
set_option maxRecDepth 100000 in
theorem num_zero (w0 w : World) (g : Nat) (x y : Int) (r : List Int) (h : RfO w0 w g (some (x :: y :: r))) (hB : Below w0.heap.size w0 w) (hx0 : 0 < x) (hx : x ≤ 8) (hl : x ≤ (r.length : Int) + 1) (hy : y = 0) :
    Calls Try.prog 81 #[.pointer (some ⟨g, 0, none⟩)] w fun e w' => e = .returned (.int .u64 0) ∧ Left w0 w w' g none := by
  subst hy
  have HS := Aside0.mk h
  have HB := Aside0.mk hB
  have E1 := Aside0.mk (take1_cons x (0 :: r))
  have E2 := Aside0.mk (show takeO (some (0 :: r)) x = (0 :: r.take (x.toNat - 1), some ((0 :: r).drop x.toNat)) by
    simp only [takeO]
    rw [if_pos (by rw [List.length_cons]; omega)]
    obtain ⟨m, hm⟩ : ∃ m, x.toNat = m + 1 := ⟨x.toNat - 1, by omega⟩
    rw [hm]; rfl)
  have hd : decide (8 < x) = false := decide_eq_false (by omega)
  clear h hB hl
  go_enter Try.func81, Try.ntmps81
  go_wp2_with (fail)
  refine (takeO_ _ _ _ _ _ HS.out HB.out).mono ?_; rintro e w1 ⟨v, rfl, ho, hl⟩; rw [E1.out] at ho hl; have HL := Aside0.mk hl; have hc1 : w1.cell? ⟨g, 1, none⟩ = some (.bool false) := hl.1.fail.1; obtain ⟨A, c, rfl, hlc, hrd⟩ := Ob.reads ho; obtain ⟨ad, rfl, hc0⟩ := Rb.at0 hrd; clear ho hl hrd hlc
  go_wp2_with (fail)
  refine (takeO_ _ _ _ _ _ HL.out.1 HL.out.2.1).mono ?_; rintro e w2 ⟨v, rfl, ho, hl⟩; rw [E2.out] at ho hl; have HL2 := Aside0.mk (HL.out.trans hl); have hc3 : w2.cell? ⟨g, 1, none⟩ = some (.bool false) := hl.1.fail.1; have hf3 := hl.1.fail.2; obtain ⟨A2, c2, rfl, hlc, hrd⟩ := Ob.reads ho; obtain ⟨ad2, rfl, hc2⟩ := Rb.at0 hrd; clear HL ho hl hlc hrd hc1 hc0
  have hl0 : decide (0 < (0 :: r.take (x.toNat - 1)).length) = true := decide_eq_true (by simp)
  generalize (0 :: r.take (x.toNat - 1)).length = nn at hl0 ⊢
  have hl2 : 0 < nn := of_decide_eq_true hl0
  have hl1 : decide (0 < (nn : Int)) = true := decide_eq_true (by omega)
  go_wp2
  go_ret
  exact ⟨rfl, HL2.out.set⟩

set_option maxHeartbeats 3200000 in
set_option maxRecDepth 100000 in
theorem num_good (w0 w : World) (g : Nat) (x : Int) (r : List Int) (h : RfO w0 w g (some (x :: r))) (hB : Below w0.heap.size w0 w) (hx0 : 0 ≤ x) (hx : x ≤ 8) (hl : x ≤ (r.length : Int)) (hy : ¬ (0 < x ∧ r.getD 0 0 = 0)) :
    Calls Try.prog 81 #[.pointer (some ⟨g, 0, none⟩)] w fun e w' => e = .returned (.int .u64 (valueB (r.take x.toNat))) ∧ Left w0 w w' g (some (r.drop x.toNat)) := by
  have HS := Aside0.mk h
  have HB := Aside0.mk hB
  have HU := Aside0.mk ((h.u8.1.tail).take x.toNat)
  have E1 := Aside0.mk (take1_cons x r)
  have E2 := Aside0.mk (show takeO (some r) x = (r.take x.toNat, some (r.drop x.toNat)) by simp only [takeO]; rw [if_pos ⟨hx0, hl⟩])
  obtain ⟨l, hL⟩ : ∃ l, l = r.take x.toNat := ⟨_, rfl⟩
  have hlen : l.length = x.toNat := by rw [hL, List.length_take]; omega
  have hb : (decide (0 < l.length) && (rd l 0 == 0)) = false := by
    rw [Bool.and_eq_false_iff]
    by_cases h0 : 0 < x
    · right
      rw [beq_eq_false_iff_ne]
      intro e
      apply hy
      refine ⟨h0, ?_⟩
      rw [hL] at e
      obtain ⟨m, hm⟩ : ∃ m, x.toNat = m + 1 := ⟨x.toNat - 1, by omega⟩
      cases r with
      | nil => simp at hl; omega
      | cons y r => simpa [rd, hm] using e
    · left
      exact decide_eq_false (by omega)
  rw [← hL] at HU E2 ⊢
  have H8 := Aside0.mk (show l.length ≤ 8 by omega)
  have hd : decide (8 < x) = false := decide_eq_false (by omega)
  clear h hB hl hy hL hlen
  go_enter Try.func81, Try.ntmps81
  go_wp2_with (fail)
  refine (takeO_ _ _ _ _ _ HS.out HB.out).mono ?_; rintro e w1 ⟨v, rfl, ho, hl⟩; rw [E1.out] at ho hl; have HL := Aside0.mk hl; have hc1 : w1.cell? ⟨g, 1, none⟩ = some (.bool false) := hl.1.fail.1; obtain ⟨A, c, rfl, hlc, hrd⟩ := Ob.reads ho; obtain ⟨ad, rfl, hc0⟩ := Rb.at0 hrd; clear ho hl hrd hlc
  go_wp2_with (fail)
  refine (takeO_ _ _ _ _ _ HL.out.1 HL.out.2.1).mono ?_; rintro e w2 ⟨v, rfl, ho, hl⟩; rw [E2.out] at ho hl; have HL2 := Aside0.mk (HL.out.trans hl); have hc3 : w2.cell? ⟨g, 1, none⟩ = some (.bool false) := hl.1.fail.1; obtain ⟨A2, c2, rfl, hlc, hrd⟩ := Ob.reads ho; have HRD := Aside0.mk hrd; have HLC := Aside0.mk hlc; clear HL ho hl hlc hrd hx0 hc1 hc0
  by_cases hz : 0 < l.length
  · have hzi : (0 : Int) < (l.length : Int) := by omega
    obtain ⟨ad2, hA2, hc2⟩ := Kd.at_int HRD.out 0 (Int.le_refl _) hzi
    subst hA2
    have hz0 : decide (0 < l.length) = true := decide_eq_true hz
    have hz1 : decide (0 < (l.length : Int)) = true := decide_eq_true (by omega)
    have hb1 : (rd l 0 == 0) = false := by rw [hz0, Bool.true_and] at hb; exact hb
    have hc5 : w2.cell? ad2 = some (.int .u8 (rd l 0)) := by simpa [Addr.add] using hc2
    clear hb hc2
    go_wp2_with (go_at_call 100; refine (value_c _ c2 l _ HRD.out HLC.out HU.out H8.out).mono ?_; rintro e w' ⟨rfl, ⟨m1, rfl⟩⟩)
    go_ret
    exact ⟨rfl, HL2.out.1.below (Drawn0.mk ⟨m1, rfl⟩).below, pw_below_drewN HL2.out.2.1 m1, keep_drewN HL2.out.2.2 m1⟩
  · have hz0 : decide (0 < l.length) = false := decide_eq_false hz
    have hl0 : l = [] := List.length_eq_zero_iff.1 (by omega)
    subst hl0
    clear hb hz hz0
    have hf0 : decide ((0 : Int) < 0) = false := rfl
    go_wp2_with (go_at_call 100; refine (value_c A2 c2 [] _ HRD.out HLC.out HU.out H8.out).mono ?_; rintro e w' ⟨rfl, ⟨m1, rfl⟩⟩)
    go_ret
    exact ⟨rfl, HL2.out.1.below (Drawn0.mk ⟨m1, rfl⟩).below, pw_below_drewN HL2.out.2.1 m1, keep_drewN HL2.out.2.2 m1⟩

theorem numO_ (w0 w : World) (g : Nat) (st : Option (List Int)) (h : RfO w0 w g st) (hB : Below w0.heap.size w0 w) :
    Calls Try.prog 81 #[.pointer (some ⟨g, 0, none⟩)] w fun e w' => e = .returned (.int .u64 (numO st).1) ∧ Left w0 w w' g (numO st).2 := by
  match st, h with
  | none, h => exact num_none w0 w g none h hB rfl
  | some [], h => exact num_none w0 w g (some []) h hB rfl
  | some (x :: r), h =>
    have hx0 := h.u8.1.head.1
    simp only [numO]
    by_cases h1 : x > 8
    · rw [if_pos h1]; exact num_wide w0 w g x r h hB h1
    · rw [if_neg h1]
      by_cases h2 : (r.length : Int) < x
      · rw [if_pos h2]; exact num_short w0 w g x r h hB hx0 (by omega) h2
      · rw [if_neg h2]
        by_cases h3 : 0 < x ∧ r.getD 0 0 = 0
        · rw [if_pos h3]
          cases r with
          | nil => simp at h2; omega
          | cons y r => exact num_zero w0 w g x y r h hB h3.1 (by omega) (by simp at h2; omega) (by simpa using h3.2)
        · rw [if_neg h3]; exact num_good w0 w g x r h hB hx0 (by omega) (by omega) h3

set_option maxHeartbeats 1600000 in
set_option maxRecDepth 100000 in
theorem countO_ (w0 w : World) (g : Nat) (st : Option (List Int)) (most : Int) (h : RfO w0 w g st) (hB : Below w0.heap.size w0 w) (hm : most ≤ 9223372036854775807) :
    Calls Try.prog 74 #[.pointer (some ⟨g, 0, none⟩), .int .i64 most] w fun e w' => e = .returned (.int .i64 (countO st most).1) ∧ Left w0 w w' g (countO st most).2 := by
  have HS := Aside0.mk h
  have HB := Aside0.mk hB
  have hr := numO_range (st := st) (fun bs e => by subst e; exact h.u8.1)
  unfold countO
  obtain ⟨nv, hnv⟩ : ∃ nv, nv = (numO st).1 := ⟨_, rfl⟩
  rw [← hnv] at hr ⊢
  have HN := Aside0.mk hnv
  have HR := Aside0.mk hr
  have HM := Aside0.mk hm
  clear hm
  clear hr hnv h hB
  by_cases h1 : most < 0
  · rw [if_pos (Or.inl h1)]
    have hd : decide (most < 0) = true := decide_eq_true h1
    clear h1
    go_enter Try.func74, Try.ntmps74
    go_wp2_with (go_at_call 81; refine (numO_ _ _ _ _ HS.out HB.out).mono ?_; rintro e w1 ⟨rfl, hl⟩; rw [← HN.out]; have HL := Aside0.mk hl; obtain ⟨hc1, hf1⟩ := hl.1.fail; clear hl)
    go_ret
    exact ⟨rfl, HL.out.set⟩
  · have hd : decide (most < 0) = false := decide_eq_false h1
    have hw : IntKind.u64.wrap most = most := IntWalk.u64_in _ (by have := HM.out; omega)
    by_cases h2 : nv > most
    · rw [if_pos (Or.inr h2)]
      have hd2 : decide (most < nv) = true := decide_eq_true h2
      clear h1 h2
      go_enter Try.func74, Try.ntmps74
      go_wp2_with (go_at_call 81; refine (numO_ _ _ _ _ HS.out HB.out).mono ?_; rintro e w1 ⟨rfl, hl⟩; rw [← HN.out]; have HL := Aside0.mk hl; obtain ⟨hc1, hf1⟩ := hl.1.fail; clear hl)
      go_ret
      exact ⟨rfl, HL.out.set⟩
    · rw [if_neg (by omega)]
      have hd2 : decide (most < nv) = false := decide_eq_false h2
      have hv : wrap64 nv = nv := IntWalk.wrap64_in _ (by have := HM.out; have := HR.out; omega)
      clear h1 h2
      go_enter Try.func74, Try.ntmps74
      go_wp2_with (go_at_call 81; refine (numO_ _ _ _ _ HS.out HB.out).mono ?_; rintro e w1 ⟨rfl, hl⟩; rw [← HN.out]; have HL := Aside0.mk hl; clear hl)
      go_ret
      exact ⟨by rw [← HN.out, hv]; rfl, HL.out⟩

set_option maxHeartbeats 800000 in
theorem textO_ (w0 w : World) (g : Nat) (st : Option (List Int)) (most : Int) (h : RfO w0 w g st) (hB : Below w0.heap.size w0 w) (hm : most ≤ 9223372036854775807) :
    Calls Try.prog 75 #[.pointer (some ⟨g, 0, none⟩), .int .i64 most] w fun e w' => ∃ v, e = .returned v ∧ Ob w' w.heap.size v (textO st most).1 ∧ Left w0 w w' g (textO st most).2 := by
  have HS := Aside0.mk h
  have HB := Aside0.mk hB
  have HM := Aside0.mk hm
  clear hm h hB
  go_enter Try.func75, Try.ntmps75
  go_wp2_with (first
    | (go_at_call 74; refine (countO_ _ _ _ _ _ HS.out HB.out HM.out).mono ?_; rintro e w1 ⟨rfl, hl⟩; have HL := Aside0.mk hl; clear hl)
    | (go_at_call 73; refine (takeO_ _ _ _ _ _ HL.out.1 HL.out.2.1).mono ?_; rintro e w2 ⟨v, rfl, ho, hl⟩; have HO := Aside0.mk ho; have HT := Aside0.mk hl; clear hl ho))
  go_ret
  exact ⟨_, rfl, Kd.R_lower HO.out HL.out.2.2.1, HL.out.trans HT.out⟩
end Go.Proofs.Ytfpkgdenohcglaa.Rf
/- The document's sum walked (printed by gen_chnrsum.py). -/
namespace Go.Proofs.Ytfpkgdenohcglaa.Chn
set_option linter.unusedVariables false
set_option linter.unusedSimpArgs false
open Go.RowKit Go.Proofs.Ytfpkgdenohcglaa.Lo Go.Proofs.Ytfpkgdenohcglaa.RdPlain Go.Proofs.Ytfpkgdenohcglaa.Base Go.Proofs.Ytfpkgdenohcglaa.TlvPlain Go.Proofs.Ytfpkgdenohcglaa.ShaPlain Go.Proofs.Ytfpkgdenohcglaa.Sha Go.Proofs.Ytfpkgdenohcglaa.Com Go.Proofs.Ytfpkgdenohcglaa.Aid Go.Proofs.YtfpkgdenohcglaaW.PrintWords Go.Proofs.YtfpkgdenohcglaaW.PrintLast Go.Proofs.YtfpkgdenohcglaaW.PrintMore
open Rf (RfO takeO_ numO_ textO_)
attribute [local irreducible] shaB
theorem rleft_below {w0 w W W1 : World} {g : Nat} {s : Option (List Int)} (h : Rf.Left w0 w W g s) (hb : Below W.heap.size W W1) : Rf.Left w0 w W1 g s := ⟨h.1.below hb, below_step h.2.1 hb, h.2.2.trans (KeepBut.of_below hb g none) (.inl rfl)⟩
theorem rleft_grown {w0 w W W1 : World} {g : Nat} {s : Option (List Int)} {row : Option Nat} (h : Rf.Left w0 w W g s) (hb : Below w.heap.size W W1) (hg : W.grownBy W1 row) (hr : ∀ b, row = some b → g < b ∧ w0.heap.size ≤ b) (h0 : w0.heap.size ≤ w.heap.size) : Rf.Left w0 w W1 g s :=
  ⟨h.1.grown hg (fun b e => (hr b e).1), h.2.1.trans (hb.mono h0), Nat.le_trans h.2.2.1 hb.size, fun i hi h1 h2 => (hb.block i hi).trans (h.2.2.2 i hi h1 h2)⟩
theorem rleft_refl {w0 w : World} {g : Nat} {st : Option (List Int)} (h : RfO w0 w g st) (hB : Below w0.heap.size w0 w) : Rf.Left w0 w w g st := ⟨h, hB, KeepBut.refl _ _ _⟩
def mixT (X : List Int) (k : Nat) : List Int := X.take k ++ Z.drop k
theorem mixT_len (X : List Int) (hX : X.length = 32) (k : Nat) (hk : k ≤ 32) : (mixT X k).length = 32 := by
  unfold mixT
  rw [List.length_append, List.length_take, List.length_drop, Z_len, hX]
  omega
theorem mixT_set (X : List Int) (hX : X.length = 32) (k : Nat) (hk : k < 32) : (nums .u8 (mixT X k)).set k (.int .u8 (X[k]'(by omega))) = nums .u8 (mixT X (k + 1)) := by
  apply List.ext_getElem?
  intro i
  have h1 : (nums .u8 (mixT X k)).length = 32 := by unfold nums; rw [List.length_map, mixT_len X hX k (by omega)]
  by_cases hi : i = k
  · subst hi
    rw [List.getElem?_set_self (by omega)]
    unfold nums mixT
    rw [List.getElem?_map, List.getElem?_append_left (by rw [List.length_take]; omega), List.getElem?_take, if_pos (Nat.lt_succ_self i), List.getElem?_eq_getElem (by omega)]
    rfl
  · rw [List.getElem?_set_ne (fun e => hi e.symm)]
    unfold nums
    rw [List.getElem?_map, List.getElem?_map]
    congr 1
    unfold mixT
    by_cases hlt : i < k
    · rw [List.getElem?_append_left (by rw [List.length_take]; omega), List.getElem?_append_left (by rw [List.length_take]; omega), List.getElem?_take, List.getElem?_take, if_pos hlt, if_pos (by omega)]
    · rw [List.getElem?_append_right (by rw [List.length_take]; omega), List.getElem?_append_right (by rw [List.length_take]; omega), List.getElem?_drop, List.getElem?_drop, List.length_take, List.length_take]
      congr 1
      omega
theorem mixT_end (X : List Int) (hX : X.length = 32) : mixT X 32 = X := by
  unfold mixT
  rw [List.take_of_length_le (by omega), List.drop_of_length_le (by rw [Z_len]; exact Nat.le_refl _), List.append_nil]
structure RsI (w0 w : World) (g : Nat) (s1 : Option (List Int)) (v : Value) (X : List Int) (k : Nat) (W : World) : Prop where
  l : Rf.Left w0 w W g s1
  z : W.heap[w.heap.size]? = some (.cells Z32 23 (0, 0))
  d : W.heap[w.heap.size + 1]? = some (.cells (nums .u8 (mixT X k)).toArray 23 (0, 0))
  r : Kd.R (Kd.int .u8) 5 W w.heap.size (fun k => k ≠ w.heap.size + 1) v X
set_option maxHeartbeats 8000000 in
set_option maxRecDepth 100000 in
theorem rsum_c (w0 w : World) (g : Nat) (st : Option (List Int)) (h : RfO w0 w g st) (hB : Below w0.heap.size w0 w) :
    Calls Try.prog 80 #[.pointer (some ⟨g, 0, none⟩)] w fun e w' => e = .returned (sumV (sumO st).1) ∧ Rf.Left w0 w w' g (sumO st).2 := by
  have h32 := take32 st
  obtain ⟨D, hD⟩ := sumC (sumO st).1 (sumO_len st)
  rw [hD.v]
  have HD := Aside0.mk hD
  have HG := Aside0.mk (And.intro h.blk.2.1 hB.size)
  have hs1 : (sumO st).1 = if (takeO st 32).1.length = 32 then (takeO st 32).1 else Z := rfl
  have hs2 : (sumO st).2 = (takeO st 32).2 := rfl
  have HW : Below w.heap.size w ((w.alloc (.cells Z32 23)).alloc (.cells Z32 23)) := below_alloc (below_alloc (Below.refl _ _) _) _
  have HL0 := Aside0.mk (show Rf.Left w0 w ((w.alloc (.cells Z32 23)).alloc (.cells Z32 23)) g st from rleft_below (rleft_refl h hB) HW)
  have HY2 := Aside0.mk (show ((w.alloc (.cells Z32 23)).alloc (.cells Z32 23)).heap[w.heap.size]? = some (.cells Z32 23 (0, 0)) from blk_alloc (blk_new _ _) _)
  have HY3 := Aside0.mk (show ((w.alloc (.cells Z32 23)).alloc (.cells Z32 23)).heap[w.heap.size + 1]? = some (.cells Z32 23 (0, 0)) from second_new' _ _ _)
  have HTK := Aside0.mk (fun V (hV : Rf.Left w0 w V g st) => takeO_ w0 V g st 32 hV.1 hV.2.1)
  obtain ⟨X, hX⟩ : ∃ X, (takeO st 32).1 = X := ⟨_, rfl⟩
  obtain ⟨s1, hs⟩ : ∃ X, (takeO st 32).2 = X := ⟨_, rfl⟩
  rw [hX] at h32 hs1 HTK
  rw [hs] at hs2 HTK
  rw [hs2]
  rw [hs1] at HD
  have H32 := Aside0.mk h32
  have q9 : (X.length : Int) ≤ 32 := by omega
  clear h32 hD h hB hs1 hs2 hX hs HW
  go_enter Try.func80, Try.ntmps80
  go_upto_region 2 with (fail)
  obtain ⟨W2, hW2⟩ : ∃ V, (w.alloc (.cells Z32 23)).alloc (.cells Z32 23) = V := ⟨_, rfl⟩
  rw [hW2] at HL0 HY2 HY3
  rw [show (w.alloc (.cells #[.int .u8 0, .int .u8 0, .int .u8 0, .int .u8 0, .int .u8 0, .int .u8 0, .int .u8 0, .int .u8 0, .int .u8 0, .int .u8 0, .int .u8 0, .int .u8 0, .int .u8 0, .int .u8 0, .int .u8 0, .int .u8 0, .int .u8 0, .int .u8 0, .int .u8 0, .int .u8 0, .int .u8 0, .int .u8 0, .int .u8 0, .int .u8 0, .int .u8 0, .int .u8 0, .int .u8 0, .int .u8 0, .int .u8 0, .int .u8 0, .int .u8 0, .int .u8 0] 23)).alloc (.cells #[.int .u8 0, .int .u8 0, .int .u8 0, .int .u8 0, .int .u8 0, .int .u8 0, .int .u8 0, .int .u8 0, .int .u8 0, .int .u8 0, .int .u8 0, .int .u8 0, .int .u8 0, .int .u8 0, .int .u8 0, .int .u8 0, .int .u8 0, .int .u8 0, .int .u8 0, .int .u8 0, .int .u8 0, .int .u8 0, .int .u8 0, .int .u8 0, .int .u8 0, .int .u8 0, .int .u8 0, .int .u8 0, .int .u8 0, .int .u8 0, .int .u8 0, .int .u8 0] 23) = W2 from hW2]
  clear hW2
  go_wp2_with (fail)
  refine (HTK.out _ HL0.out).mono ?_
  rintro e w3 ⟨v, rfl, ho, hl⟩
  obtain ⟨A3, c3, rfl⟩ := Kd.R_slice ho
  have HI0 := Aside0.mk (show RsI w0 w g s1 (.slice A3 X.length c3) X 0 w3 from ⟨HL0.out.trans hl, hl.2.2.blk HY2.out (by have := HG.out.1; omega) (by simp), hl.2.2.blk HY3.out (by have := HG.out.1; omega) (by simp),
    Kd.R_lower (Kd.R_mono (Kd.R_bound ho) (fun k hk => by have h1 := hk.2.1; have h2 := blk_lt HY3.out; omega)) HL0.out.2.2.1⟩)
  clear ho hl HL0 HY2 HY3
  go_wp2_with (fail)
  go_loopw [5] (fun i wx => ∃ k : Nat, k ≤ X.length ∧ i = .int .i64 k ∧ Aside0 (RsI w0 w g s1 (.slice A3 X.length c3) X k wx)) (fun i _ => X.length - (intOf i).toNat)
  case atStart => exact ⟨0, Nat.zero_le _, rfl, HI0⟩
  case round =>
    clear HI0
    obtain ⟨k, hk, rfl, HI⟩ := hrel
    obtain ⟨W, hwy⟩ : ∃ wy, wy = wr := ⟨_, rfl⟩
    subst hwy
    by_cases hlt : k < X.length
    · have hX : X.length = 32 := by have := H32.out; omega
      have HX := Aside0.mk hX
      have HK := Aside0.mk hlt
      have hrb := (Kd.R_reads' HI.out.r).2.2
      obtain ⟨ad, rfl, _⟩ := hrb.2.2 (by omega)
      have hcx : W.cell? (ad.add k) = some (.int .u8 X[k]) := rb_cells hrb k _ (by unfold nums; rw [List.getElem?_map, List.getElem?_eq_getElem hlt]; rfl)
      have hm := blk_set HI.out.d k (.int .u8 X[k])
      rw [List.setIfInBounds_toArray, mixT_set X hX k (by omega)] at hm
      obtain ⟨y, hy⟩ : ∃ y, X[k] = y := ⟨_, rfl⟩
      rw [hy] at hcx hm
      have hlen : k < (nums .u8 (mixT X k)).length := by unfold nums; rw [List.length_map, mixT_len X hX k (by omega)]; omega
      obtain ⟨z, hz⟩ : ∃ z, W.cell? ⟨w.heap.size + 1, k, none⟩ = some z := ⟨_, (blk_cell HI.out.d k).trans (by rw [List.getElem?_toArray]; exact List.getElem?_eq_getElem hlen)⟩
      have hfz := blk_frozen HI.out.d k
      have HM := Aside0.mk hm
      have p0 : (0 : Int) ≤ (k : Int) := by omega
      have p1 : (k : Int) < (X.length : Int) := by omega
      have p2 : (k : Int) < 32 := by omega
      have d1 : decide ((k : Int) < (X.length : Int)) = true := decide_eq_true (by omega)
      have d2 : decide (k < X.length) = true := decide_eq_true hlt
      clear hrb hm hy hlen hlt hk hX
      go_wp2_with (fail)
      have hg := grown_setCell W (w.heap.size + 1) k (.int .u8 y)
      have HI2 := Aside0.mk (show RsI w0 w g s1 (.slice (some ad) X.length c3) X (k + 1) (W.setCell ⟨w.heap.size + 1, k, none⟩ (.int .u8 y)) from
        ⟨rleft_grown HI.out.l (show Below w.heap.size W (W.setCell ⟨w.heap.size + 1, k, none⟩ (.int .u8 y)) from ⟨rfl, rfl, rfl, by simp [World.setCell], fun j hj => Below.heap_setCell W ⟨w.heap.size + 1, k, none⟩ (.int .u8 y) j (by dsimp only; omega)⟩) hg (fun b e => by injection e with e; subst e; have := HG.out; exact ⟨by omega, by omega⟩) HG.out.2,
          (hg.block w.heap.size (blk_lt HI.out.z) (fun e => by injection e with e; omega)).trans HI.out.z, HM.out, Kd.R_grown HI.out.r hg (fun k hk e => hk (by injection e))⟩)
      clear hg
      go_roundw
      case rel => exact ⟨k + 1, by have := HK.out; omega, by go_num, HI2⟩
      case measure => have := HK.out; simp [intOf]; omega
    · have hkm : X.length = k := by omega
      have hmx : mixT X k = if X.length = 32 then X else Z := by
        by_cases h : X.length = 32
        · rw [if_pos h, ← hkm, h]; exact mixT_end X h
        · rw [if_neg h]
          have h0 : k = 0 := by have := H32.out; omega
          subst h0
          rfl
      have HA4 := Aside0.mk (show AtC W ⟨w.heap.size + 1, 0, none⟩ D from by have h := HI.out.d; rw [hmx, HD.out.eq] at h; exact atC_blk h)
      have HII := Aside0.mk HD.out.blk
      have HZ4 := Aside0.mk HI.out.z
      have d1 : decide ((k : Int) < (X.length : Int)) = false := decide_eq_false (by omega)
      have d2 : decide (k < X.length) = false := decide_eq_false hlt
      clear hmx hkm hk hlt
      go_wp2_with (first
        | ((with_reducible refine gate_dst (N := 20) rfl ?_); refine wpList_load_at rfl 23 (.tmp 3) rfl ⟨w.heap.size + 1, 0, none⟩ rfl D _ HA4.out Try.underlying23 rfl HII.out ?_)
        | ((with_reducible refine gate_store (t := 23) (p := 2) (v := .tmp 20) rfl ?_); refine wpList_store_row rfl 23 (.tmp 2) (.tmp 20) rfl w.heap.size D.toArray rfl rfl 23 Z32 HZ4.out HD.out.blkA HD.out.zsA HD.out.oneA ?_))
      have HSR := setRow_heap W w.heap.size Z32 D.toArray _ _ HZ4.out
      refine bodyPost_ret (v := .agg D.toArray) (results_cell_row rfl _ _ w.heap.size 23 D.toArray (0, 0) _ rfl HSR Try.underlying23 rfl HD.out.blkA) rfl ⟨rfl, ?_⟩
      exact rleft_grown HI.out.l (below_setRow (Below.refl _ _) (Nat.le_refl _) _) (grown_setRow _ _ _) (fun b e => by injection e with e; subst e; exact HG.out) HG.out.2
end Go.Proofs.Ytfpkgdenohcglaa.Chn
