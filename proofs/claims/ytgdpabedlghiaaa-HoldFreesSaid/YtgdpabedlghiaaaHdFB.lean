/- Own and printed texts, laid together. -/
import Derived.Test.YtgdpabedlghiaaaHdFA
import Derived.Deep.DeepMust
import Derived.ProofKit
import Derived.Deep.Slices
import Derived.Laws.CopyRow
import Derived.Laws.MakeOwn
import Derived.Laws.CopyOwn
/- scope.counter.may and scope.Check walked (printed by gen_scopemay.py). -/
namespace Go.Proofs.Ytgdpabedlghiaaa.Scope
set_option linter.unusedVariables false
set_option linter.unusedSimpArgs false
open Go.RowKit Go.Proofs.YtgdpabedlghiaaaW.PrintWords Go.Proofs.YtgdpabedlghiaaaW.PrintLast Go.Proofs.YtgdpabedlghiaaaW.PrintMore Go.Proofs.Ytgdpabedlghiaaa.PZ
def namedB (op : Int) : Bool := decide (op = 2) || decide (op = 3) || decide (op = 4)
def fieldsB (op : Int) (nm : ByteArray) (fr to_ : Int) : Bool :=
  if op < 1 ∨ op > 8 then false else if namedB op = true ∧ Name.nameB nm = false then false else if namedB op = false ∧ nm.toList ≠ [] then false
  else if op = 5 then decide (fr ≥ 0) && (decide (fr ≤ to_) && decide (to_ ≤ 1099511627776)) else decide (fr = 0) && decide (to_ = 0)
theorem named_v (op : Int) : scope_named.f op = some (namedB op) := by
  unfold scope_named.f namedB
  by_cases h2 : op = 2
  · simp [h2]
  · by_cases h3 : op = 3
    · simp [h3]
    · by_cases h4 : op = 4 <;> simp [h2, h3, h4]
theorem fields_j2 (k : Nat) (b : Bool) (op : Int) (nm : ByteArray) (fr to_ : Int) (l : List S40) : scope_fields.j2 (k + 1) b op nm fr to_ l = some (if b = true then false else if op = 5 then decide (fr ≥ 0) && (decide (fr ≤ to_) && decide (to_ ≤ 1099511627776)) else decide (fr = 0) && decide (to_ = 0)) := by
  unfold scope_fields.j2
  cases b
  · by_cases h5 : op = 5
    · by_cases h1 : fr ≥ 0
      · by_cases h2 : fr ≤ to_ <;> simp [h5, h1, h2]
      · simp [h5, h1]
    · by_cases h1 : fr = 0
      · by_cases h2 : to_ = 0 <;> simp [h5, h1, h2]
      · simp [h5, h1]
  · simp
theorem fields_j1 (k : Nat) (b : Bool) (op : Int) (nm : ByteArray) (fr to_ : Int) (l : List S40) : scope_fields.j1 (k + 2) b op nm fr to_ l = some (if b = true then false else if namedB op = false ∧ nm.toList ≠ [] then false else if op = 5 then decide (fr ≥ 0) && (decide (fr ≤ to_) && decide (to_ ≤ 1099511627776)) else decide (fr = 0) && decide (to_ = 0)) := by
  rw [show k + 2 = (k + 1) + 1 from rfl, scope_fields.j1]
  cases b
  · rw [if_neg (by decide), named_v, Option.bind_some]
    cases hn : namedB op
    · rw [if_neg (by decide), fields_j2]
      by_cases hs : nm.toList = [] <;> simp [hs]
    · rw [if_pos rfl, fields_j2]
      simp
  · rw [if_pos rfl, fields_j2]
    simp
theorem fields_j0 (k : Nat) (b : Bool) (op : Int) (nm : ByteArray) (fr to_ : Int) (l : List S40) : scope_fields.j0 (k + 3) b op nm fr to_ l = some (if b = true then false else if namedB op = true ∧ Name.nameB nm = false then false else if namedB op = false ∧ nm.toList ≠ [] then false else if op = 5 then decide (fr ≥ 0) && (decide (fr ≤ to_) && decide (to_ ≤ 1099511627776)) else decide (fr = 0) && decide (to_ = 0)) := by
  rw [show k + 3 = (k + 2) + 1 from rfl, scope_fields.j0]
  cases b
  · rw [if_neg (by decide), named_v, Option.bind_some]
    cases hn : namedB op
    · rw [if_neg (by decide), fields_j1, hn]
      simp
    · rw [if_pos rfl]
      unfold inode_Name.f
      rw [Option.bind_some, fields_j1, hn]
      cases hm : Name.nameB nm <;> simp
  · rw [if_pos rfl]
    simp
theorem fields_v (k : Nat) (op : Int) (nm : ByteArray) (fr to_ : Int) (l : List S40) : scope_fields.f (k + 3) op nm fr to_ l = some (fieldsB op nm fr to_) := by
  unfold scope_fields.f fieldsB
  by_cases h1 : op < 1
  · rw [if_pos h1, fields_j0, if_pos rfl, if_pos (Or.inl h1)]
  · rw [if_neg h1, fields_j0]
    by_cases h8 : op > 8
    · rw [decide_eq_true h8, if_pos rfl, if_pos (Or.inr h8)]
    · rw [decide_eq_false h8, if_neg (by decide), if_neg (by omega : ¬ (op < 1 ∨ op > 8))]
def leastB (op : Int) : Int := if op = 8 then 1 else if op = 6 then 2 else if op = 7 then 2 else 0
def mostB (op : Int) : Int := if op = 8 then 1 else if op = 6 then 24 else if op = 7 then 24 else 0
theorem kids_v (op : Int) : scope_kids.f op = some (leastB op, mostB op) := by
  unfold scope_kids.f leastB mostB
  by_cases h8 : op = 8
  · simp [h8]
  · by_cases h6 : op = 6
    · simp [h6]
    · by_cases h7 : op = 7 <;> simp [h8, h6, h7]
mutual
/-- May a scope be, so deep, with so many nodes left? And how many are left. -/
def mayS : S40 → Int → Int → Bool × Int
  | ⟨op, nm, fr, to_, kids⟩, deep, left =>
    if wrap64 (left - 1) < 0 then (false, wrap64 (left - 1)) else if deep = 0 then (false, wrap64 (left - 1)) else if fieldsB op nm fr to_ = false then (false, wrap64 (left - 1))
    else if (kids.length : Int) < leastB op then (false, wrap64 (left - 1)) else if mostB op < (kids.length : Int) then (false, wrap64 (left - 1))
    else (!(mayAny kids (wrap64 (deep - 1)) (wrap64 (left - 1))).1, (mayAny kids (wrap64 (deep - 1)) (wrap64 (left - 1))).2)
def mayAny : List S40 → Int → Int → Bool × Int
  | [], _, l => (false, l)
  | k :: ks, d, l => if (mayS k d l).1 = false then (true, (mayS k d l).2) else mayAny ks d (mayS k d l).2
end
theorem mayAny_run (d : Int) : ∀ (ks : List S40) (l : Int), runAny (fun k l => (!(mayS k d l).1, (mayS k d l).2)) ks l = mayAny ks d l
  | [], l => by simp [runAny, mayAny]
  | k :: ks, l => by
    rw [runAny, mayAny]
    cases h : (mayS k d l).1
    · simp
    · simp [mayAny_run d ks]
/-- All but one block stands. -/
def Kp (g : Nat) (w w' : World) : Prop := Below g w w' ∧ ∀ k, k ≠ g → k < w.heap.size → w'.heap[k]? = w.heap[k]?
theorem Kp.refl (g : Nat) (w : World) : Kp g w w := ⟨Below.refl _ _, fun _ _ _ => rfl⟩
theorem Kp.trans {g : Nat} {a b c : World} (h : Kp g a b) (k : Kp g b c) : Kp g a c := ⟨h.1.trans k.1, fun i hi hl => (k.2 i hi (Nat.lt_of_lt_of_le hl h.1.size)).trans (h.2 i hi hl)⟩
theorem Kp.of_below {g : Nat} {a b : World} (h : Below a.heap.size a b) (hg : g ≤ a.heap.size) : Kp g a b := ⟨h.mono hg, fun k _ hl => h.block k hl⟩
theorem Kp.set (g : Nat) (w : World) (v : Value) : Kp g w (w.setCell ⟨g, 0, none⟩ v) :=
  ⟨⟨rfl, rfl, rfl, by simp [World.setCell], fun k hk => Below.heap_setCell w ⟨g, 0, none⟩ v k (Nat.ne_of_lt hk)⟩, fun k hk _ => Below.heap_setCell w ⟨g, 0, none⟩ v k hk⟩
theorem Blk.kp {g k T : Nat} {w w' : World} {cs : Array Value} (h : Blk w k T cs) (hk : Kp g w w') (hne : k ≠ g) : Blk w' k T cs := (hk.2 k hne (blk_lt h)).trans h
theorem Kp.base {g b : Nat} {w0 w w' : World} (h : Kp g w w') (hb : Below b w0 w) (hg : b ≤ g) : Below b w0 w' := hb.trans (h.1.mono hg)
/-- What is known of may at a scope. -/
def MayC (x : S40) : Prop := ∀ (gc : Nat) (deep left : Int) A c w0 w, Kd.C k40 w0 A x.f4.length x.f4 → x.f4.length ≤ c → w0.heap.size ≤ gc → Below w0.heap.size w0 w → Blk w gc 94 #[.int .i64 left] →
  Calls Try.prog 70 #[.pointer (some ⟨gc, 0, none⟩), .agg #[.int .i64 x.f0, .string x.f1, .int .i64 x.f2, .int .i64 x.f3, .slice A x.f4.length c], .int .i64 deep] w fun e w' => e = .returned (.bool (mayS x deep left).1) ∧ Blk w' gc 94 #[.int .i64 (mayS x deep left).2] ∧ Kp gc w w'
set_option maxHeartbeats 1000000 in
set_option maxRecDepth 100000 in
theorem mayk_c {x : S40} (hm : MayC x) (gc g0 g1 : Nat) (deep left : Int) (A : Option Addr) (c : Nat) (w0 w : World) (hr : Kd.C k40 w0 A x.f4.length x.f4) (hc : x.f4.length ≤ c) (hg : w0.heap.size ≤ gc) (hb : Below w0.heap.size w0 w) (hL : Blk w gc 94 #[.int .i64 left])
    (h0 : Blk w g0 92 #[.pointer (some ⟨gc, 0, none⟩)]) (h1 : Blk w g1 3 #[.int .i64 deep]) :
    Calls Try.prog 114 #[.agg #[.int .i64 x.f0, .string x.f1, .int .i64 x.f2, .int .i64 x.f3, .slice A x.f4.length c], .pointer (some ⟨g0, 0, none⟩), .pointer (some ⟨g1, 0, none⟩)] w fun e w' => e = .returned (.bool (!(mayS x (wrap64 (deep - 1)) left).1)) ∧ Blk w' gc 94 #[.int .i64 (mayS x (wrap64 (deep - 1)) left).2] ∧ Kp gc w w' := by
  have HK := Aside0.mk (Kp.of_below (g := gc) (below_alloc (Below.refl w.heap.size w) (.cells #[.int .i64 x.f0, .string x.f1, .int .i64 x.f2, .int .i64 x.f3, .slice A x.f4.length c] 40)) (Nat.le_of_lt hL.lt))
  have HC := Aside0.mk (hm gc (wrap64 (deep - 1)) left A c w0 _ hr hc hg (below_alloc hb (.cells #[.int .i64 x.f0, .string x.f1, .int .i64 x.f2, .int .i64 x.f3, .slice A x.f4.length c] 40)) (hL.alloc _))
  have d0 := (h0.alloc (.cells #[.int .i64 x.f0, .string x.f1, .int .i64 x.f2, .int .i64 x.f3, .slice A x.f4.length c] 40)).cell 0
  have d1 := (h1.alloc (.cells #[.int .i64 x.f0, .string x.f1, .int .i64 x.f2, .int .i64 x.f3, .slice A x.f4.length c] 40)).cell 0
  simp only [List.getElem?_toArray, List.getElem?_cons_zero] at d0 d1
  have hu40 := Try.underlying40
  obtain ⟨r, hr_⟩ : ∃ r, mayS x (wrap64 (deep - 1)) left = r := ⟨_, rfl⟩
  rw [hr_] at HC ⊢
  obtain ⟨b, l2⟩ := r
  clear hm hr hc hg hb hL h0 h1 hr_
  dsimp only at HC ⊢
  go_enter Try.func114, Try.ntmps114
  go_wp2_with (go_at_call 70; refine HC.out.mono ?_; rintro e w' ⟨rfl, h1, h2⟩; have H1 := Aside0.mk h1; have H2 := Aside0.mk (HK.out.trans h2); clear h1 h2)
  go_ret
  exact ⟨rfl, H1.out, H2.out⟩
theorem below_step_b {b : Nat} {w0 w w' : World} (h : Below b w0 w) (k : Below w.heap.size w w') (hb : b ≤ w.heap.size := by omega) : Below b w0 w' := h.trans (k.mono hb)
theorem blk1 (w : World) (a o : Obj) : ((w.alloc a).alloc o).heap[w.heap.size]? = some a := blk_alloc (blk_new _ _) _
set_option maxHeartbeats 4000000 in
set_option maxRecDepth 100000 in
theorem may_n : ∀ (n : Nat) (x : S40), SizeOf.sizeOf x < n → MayC x := by
  intro n
  induction n with
  | zero => intro x h; exact absurd h (by omega)
  | succ n ih =>
  intro x hn gc deep left A c w0 w hr hc hg hb hL
  have HIH := Aside0.mk (fun k (hk : k ∈ x.f4) => ih k (by have := kid_lt hk; omega))
  have HR := Aside0.mk hr
  have HC := Aside0.mk hc
  have HG := Aside0.mk hg
  have HV := Aside0.mk (show mayS x deep left = if wrap64 (left - 1) < 0 then (false, wrap64 (left - 1)) else if deep = 0 then (false, wrap64 (left - 1)) else if fieldsB x.f0 x.f1 x.f2 x.f3 = false then (false, wrap64 (left - 1))
      else if (x.f4.length : Int) < leastB x.f0 then (false, wrap64 (left - 1)) else if mostB x.f0 < (x.f4.length : Int) then (false, wrap64 (left - 1))
      else (!(mayAny x.f4 (wrap64 (deep - 1)) (wrap64 (left - 1))).1, (mayAny x.f4 (wrap64 (deep - 1)) (wrap64 (left - 1))).2) by
    obtain ⟨op, nm, fr, to_, kids⟩ := x
    simp only [mayS])
  have HKV := Aside0.mk (kids_v x.f0)
  have HFV := Aside0.mk (fields_v 0 x.f0 x.f1 x.f2 x.f3 x.f4)
  obtain ⟨lo, hlo⟩ : ∃ v, leastB x.f0 = v := ⟨_, rfl⟩
  obtain ⟨hi, hhi⟩ : ∃ v, mostB x.f0 = v := ⟨_, rfl⟩
  obtain ⟨fb, hfb⟩ : ∃ v, fieldsB x.f0 x.f1 x.f2 x.f3 = v := ⟨_, rfl⟩
  obtain ⟨l1, hl1⟩ : ∃ v, wrap64 (left - 1) = v := ⟨_, rfl⟩
  rw [hlo, hhi] at HKV
  rw [hfb] at HFV
  rw [hlo, hhi, hfb, hl1] at HV
  have hne := Nat.ne_of_lt hL.lt
  have H0 := Aside0.mk (show Blk (((w.alloc (.cells #[.pointer (some ⟨gc, 0, none⟩)] 92)).alloc (.cells #[.int .i64 x.f0, .string x.f1, .int .i64 x.f2, .int .i64 x.f3, .slice A x.f4.length c] 40)).alloc (.cells #[.int .i64 deep] 3)) w.heap.size 92 #[.pointer (some ⟨gc, 0, none⟩)] from blk_alloc (blk1 _ _ _) _)
  have H1 := Aside0.mk (show Blk (((w.alloc (.cells #[.pointer (some ⟨gc, 0, none⟩)] 92)).alloc (.cells #[.int .i64 x.f0, .string x.f1, .int .i64 x.f2, .int .i64 x.f3, .slice A x.f4.length c] 40)).alloc (.cells #[.int .i64 deep] 3)) (w.heap.size + 1) 40 #[.int .i64 x.f0, .string x.f1, .int .i64 x.f2, .int .i64 x.f3, .slice A x.f4.length c] from blk_alloc (blk2 _ _ _) _)
  have H2 := Aside0.mk (show Blk (((w.alloc (.cells #[.pointer (some ⟨gc, 0, none⟩)] 92)).alloc (.cells #[.int .i64 x.f0, .string x.f1, .int .i64 x.f2, .int .i64 x.f3, .slice A x.f4.length c] 40)).alloc (.cells #[.int .i64 deep] 3)) (w.heap.size + 1 + 1) 3 #[.int .i64 deep] from blk3 _ _ _ _)
  have HLL := Aside0.mk (show Blk (((w.alloc (.cells #[.pointer (some ⟨gc, 0, none⟩)] 92)).alloc (.cells #[.int .i64 x.f0, .string x.f1, .int .i64 x.f2, .int .i64 x.f3, .slice A x.f4.length c] 40)).alloc (.cells #[.int .i64 deep] 3)) gc 94 #[.int .i64 left] from ((hL.alloc _).alloc _).alloc _)
  have HBB := Aside0.mk (show Below w0.heap.size w0 (((w.alloc (.cells #[.pointer (some ⟨gc, 0, none⟩)] 92)).alloc (.cells #[.int .i64 x.f0, .string x.f1, .int .i64 x.f2, .int .i64 x.f3, .slice A x.f4.length c] 40)).alloc (.cells #[.int .i64 deep] 3)) from below_alloc (below_alloc (below_alloc hb _) _) _)
  have HKP := Aside0.mk (show Kp gc w (((w.alloc (.cells #[.pointer (some ⟨gc, 0, none⟩)] 92)).alloc (.cells #[.int .i64 x.f0, .string x.f1, .int .i64 x.f2, .int .i64 x.f3, .slice A x.f4.length c] 40)).alloc (.cells #[.int .i64 deep] 3)) from Kp.of_below (below_alloc (below_alloc (below_alloc (Below.refl _ _) _) _) _) (Nat.le_of_lt hL.lt))
  have HNE := Aside0.mk (show w.heap.size ≠ gc ∧ w.heap.size + 1 ≠ gc ∧ w.heap.size + 1 + 1 ≠ gc by have := hL.lt; omega)
  have hcz := HLL.out.cell 0
  have hfz := blk_frozen HLL.out 0
  have d0 := H0.out.cell 0
  simp only [List.getElem?_toArray, List.getElem?_cons_zero] at hcz d0
  obtain ⟨r, hrr⟩ : ∃ r, mayS x deep left = r := ⟨_, rfl⟩
  rw [hrr] at HV ⊢
  clear hr hc hn ih hg hb hL hlo hhi hfb hrr hne
  have hu40 := Try.underlying40
  have hu38 := Try.underlying38
  have hu94 := Try.underlying94
  obtain ⟨g, hg⟩ : ∃ g, w.heap.size = g := ⟨_, rfl⟩
  go_enter Try.func70, Try.ntmps70
  clear hg
  go_upto_region 2 with (fail)
  obtain ⟨V, hV⟩ : ∃ V, (((w.alloc (.cells #[.pointer (some ⟨gc, 0, none⟩)] 92)).alloc (.cells #[.int .i64 x.f0, .string x.f1, .int .i64 x.f2, .int .i64 x.f3, .slice A x.f4.length c] 40)).alloc (.cells #[.int .i64 deep] 3)) = V := ⟨_, rfl⟩
  rw [hV] at H0 H1 H2 HLL HBB HKP hcz hfz d0 ⊢
  clear hV hcz hfz d0
  rw [hl1]
  obtain ⟨V1, hV⟩ : ∃ V1, V.setCell ⟨gc, 0, none⟩ (.int .i64 l1) = V1 := ⟨_, rfl⟩
  have HK1 := Aside0.mk (show Kp gc V V1 by rw [← hV]; exact Kp.set gc V _)
  have HL1 := Aside0.mk (show Blk V1 gc 94 #[.int .i64 l1] by rw [← hV]; exact blk_set HLL.out 0 _)
  rw [hV]
  have q0 := (H1.out.kp HK1.out HNE.out.2.1).cell 0
  simp only [List.getElem?_toArray, List.getElem?_cons_zero] at q0
  clear hV
  go_upto_region 3 with (go_at_call 112; refine (scope_kids.calls x.f0 lo hi _ HKV.out).mono ?_; rintro e w' ⟨rfl, hd⟩; have HD := Aside0.mk hd.below; clear hd)
  rename_i V2
  clear q0
  have hn_ := HNE.out
  have HK2 := Aside0.mk ((HKP.out.trans HK1.out).trans (Kp.of_below HD.out (Nat.le_of_lt HL1.out.lt)))
  have HL2 := Aside0.mk (HL1.out.below HD.out)
  have HB2 := Aside0.mk ((HK1.out.trans (Kp.of_below HD.out (Nat.le_of_lt HL1.out.lt))).base HBB.out HG.out)
  have HA0 := Aside0.mk (Blk.below (H0.out.kp HK1.out hn_.1) HD.out)
  have HA1 := Aside0.mk (Blk.below (H1.out.kp HK1.out hn_.2.1) HD.out)
  have HA2 := Aside0.mk (Blk.below (H2.out.kp HK1.out hn_.2.2) HD.out)
  clear hn_ HD HK1 HL1 H0 H1 H2 HLL HKP HBB HKV
  have d0 := HA0.out.cell 0
  have q0 := HA1.out.cell 0
  have q1 := HA1.out.cell 1
  have q2 := HA1.out.cell 2
  have q3 := HA1.out.cell 3
  have q4 := HA1.out.cell 4
  have d2 := HA2.out.cell 0
  have l0 := HL2.out.cell 0
  simp only [List.getElem?_toArray, List.getElem?_cons_zero, List.getElem?_cons_succ] at d0 q0 q1 q2 q3 q4 d2 l0
  have HV1 := HV.out
  clear HV
  by_cases c1 : l1 < 0
  · have z1 : decide (l1 < 0) = true := decide_eq_true c1
    rw [if_pos c1] at HV1
    subst HV1
    clear c1
    go_wp2
    go_ret
    exact ⟨rfl, HL2.out, HK2.out⟩
  have z1 : decide (l1 < 0) = false := decide_eq_false c1
  rw [if_neg c1] at HV1
  clear c1
  by_cases c2 : deep = 0
  · have z2 : (deep == 0) = true := beq_iff_eq.mpr c2
    rw [if_pos c2] at HV1
    subst HV1
    clear c2
    go_wp2
    go_ret
    exact ⟨rfl, HL2.out, HK2.out⟩
  have z2 : (deep == 0) = false := beq_eq_false_iff_ne.mpr c2
  rw [if_neg c2] at HV1
  clear c2
  cases fb with
  | false =>
    rw [if_pos rfl] at HV1
    subst HV1
    go_wp2_with (go_at_call 113; refine (scope_fields.calls (0 + 3) x.f0 x.f1 x.f2 x.f3 A c x.f4 false _ (Kd.C_below HR.out HB2.out) HC.out HFV.out).mono ?_; rintro e w' ⟨rfl, hb⟩; have HL3 := Aside0.mk (HL2.out.below hb); have HK3 := Aside0.mk (HK2.out.trans (Kp.of_below hb (Nat.le_of_lt HL2.out.lt))); have HB3 := Aside0.mk (below_step HB2.out hb); have e0 := HA1.out.below hb; have e4 := e0.cell 4; have e2 := HA2.out.below hb; have HE0 := Aside0.mk (HA0.out.below hb); have HE2 := Aside0.mk e2; simp only [List.getElem?_toArray, List.getElem?_cons_zero, List.getElem?_cons_succ] at e4; clear e0 e2 hb)
    go_ret
    exact ⟨rfl, HL3.out, HK3.out⟩
  | true =>
    rw [if_neg (by decide)] at HV1
    by_cases c4 : (x.f4.length : Int) < lo
    · have z4 : decide ((x.f4.length : Int) < lo) = true := decide_eq_true c4
      rw [if_pos c4] at HV1
      subst HV1
      clear c4
      go_wp2_with (go_at_call 113; refine (scope_fields.calls (0 + 3) x.f0 x.f1 x.f2 x.f3 A c x.f4 true _ (Kd.C_below HR.out HB2.out) HC.out HFV.out).mono ?_; rintro e w' ⟨rfl, hb⟩; have HL3 := Aside0.mk (HL2.out.below hb); have HK3 := Aside0.mk (HK2.out.trans (Kp.of_below hb (Nat.le_of_lt HL2.out.lt))); have HB3 := Aside0.mk (below_step HB2.out hb); have e0 := HA1.out.below hb; have e4 := e0.cell 4; have e2 := HA2.out.below hb; have HE0 := Aside0.mk (HA0.out.below hb); have HE2 := Aside0.mk e2; simp only [List.getElem?_toArray, List.getElem?_cons_zero, List.getElem?_cons_succ] at e4; clear e0 e2 hb)
      go_ret
      exact ⟨rfl, HL3.out, HK3.out⟩
    have z4 : decide ((x.f4.length : Int) < lo) = false := decide_eq_false c4
    rw [if_neg c4] at HV1
    clear c4
    by_cases c5 : hi < (x.f4.length : Int)
    · have z5 : decide (hi < (x.f4.length : Int)) = true := decide_eq_true c5
      rw [if_pos c5] at HV1
      subst HV1
      clear c5
      go_wp2_with (go_at_call 113; refine (scope_fields.calls (0 + 3) x.f0 x.f1 x.f2 x.f3 A c x.f4 true _ (Kd.C_below HR.out HB2.out) HC.out HFV.out).mono ?_; rintro e w' ⟨rfl, hb⟩; have HL3 := Aside0.mk (HL2.out.below hb); have HK3 := Aside0.mk (HK2.out.trans (Kp.of_below hb (Nat.le_of_lt HL2.out.lt))); have HB3 := Aside0.mk (below_step HB2.out hb); have e0 := HA1.out.below hb; have e4 := e0.cell 4; have e2 := HA2.out.below hb; have HE0 := Aside0.mk (HA0.out.below hb); have HE2 := Aside0.mk e2; simp only [List.getElem?_toArray, List.getElem?_cons_zero, List.getElem?_cons_succ] at e4; clear e0 e2 hb)
      go_ret
      exact ⟨rfl, HL3.out, HK3.out⟩
    have z5 : decide (hi < (x.f4.length : Int)) = false := decide_eq_false c5
    rw [if_neg c5] at HV1
    clear c5
    have HAY := Aside0.mk (fun W (h0 : Blk W gc 94 #[.int .i64 l1] ∧ Blk W w.heap.size 92 #[.pointer (some ⟨gc, 0, none⟩)] ∧ Blk W (w.heap.size + 1 + 1) 3 #[.int .i64 deep] ∧ Below w0.heap.size w0 W ∧ Kp gc w W) => any_may w.heap.size (w.heap.size + 1 + 1) (fun k l => (!(mayS k (wrap64 (deep - 1)) l).1, (mayS k (wrap64 (deep - 1)) l).2)) (fun l W => Blk W gc 94 #[.int .i64 l] ∧ Blk W w.heap.size 92 #[.pointer (some ⟨gc, 0, none⟩)] ∧ Blk W (w.heap.size + 1 + 1) 3 #[.int .i64 deep] ∧ Below w0.heap.size w0 W ∧ Kp gc w W) A x.f4 c w0 HR.out (fun _ _ h => h.2.2.2.1) (by
      intro k hk l W A4 c4 hi_ h1 h2
      refine (mayk_c (HIH.out k hk) gc w.heap.size (w.heap.size + 1 + 1) deep l A4 c4 w0 W h1 h2 HG.out hi_.2.2.2.1 hi_.1 hi_.2.1 hi_.2.2.1).mono ?_
      rintro e w' ⟨rfl, g1, g2⟩
      exact ⟨rfl, g1, hi_.2.1.kp g2 HNE.out.1, hi_.2.2.1.kp g2 HNE.out.2.2, g2.base hi_.2.2.2.1 HG.out, hi_.2.2.2.2.trans g2⟩) l1 W h0)
    rw [mayAny_run] at HAY
    obtain ⟨q, hq⟩ : ∃ q, mayAny x.f4 (wrap64 (deep - 1)) l1 = q := ⟨_, rfl⟩
    rw [hq] at HAY HV1
    obtain ⟨qb, ql⟩ := q
    dsimp only at HAY HV1
    subst HV1
    clear hq HIH
    go_wp2_with (first
      | (go_at_call 113; refine (scope_fields.calls (0 + 3) x.f0 x.f1 x.f2 x.f3 A c x.f4 true _ (Kd.C_below HR.out HB2.out) HC.out HFV.out).mono ?_; rintro e w' ⟨rfl, hb⟩; have HL3 := Aside0.mk (HL2.out.below hb); have HK3 := Aside0.mk (HK2.out.trans (Kp.of_below hb (Nat.le_of_lt HL2.out.lt))); have HB3 := Aside0.mk (below_step HB2.out hb); have e0 := HA1.out.below hb; have e4 := e0.cell 4; have e2 := HA2.out.below hb; have HE0 := Aside0.mk (HA0.out.below hb); have HE2 := Aside0.mk e2; simp only [List.getElem?_toArray, List.getElem?_cons_zero, List.getElem?_cons_succ] at e4; clear e0 e2 hb)
      | (go_at_call 72; refine (HAY.out _ ⟨HL3.out, HE0.out, HE2.out, HB3.out, HK3.out⟩).mono ?_; rintro e w' ⟨rfl, g1, _, _, _, g5⟩; have HL4 := Aside0.mk g1; have HK4 := Aside0.mk g5; clear g1 g5))
    go_ret
    exact ⟨rfl, HL4.out, HK4.out⟩
end Go.Proofs.Ytgdpabedlghiaaa.Scope
/- scope.Match and scope.Check, in the printed functions' form. -/
namespace Go.Proofs.Ytgdpabedlghiaaa.Scope
set_option linter.unusedVariables false
set_option linter.unusedSimpArgs false
open Go.RowKit Go.Proofs.YtgdpabedlghiaaaW.PrintWords Go.Proofs.YtgdpabedlghiaaaW.PrintLast Go.Proofs.YtgdpabedlghiaaaW.PrintMore Go.Proofs.Ytgdpabedlghiaaa.PZ
/-- May a scope be? -/
def mayB (x : S40) : Bool := (mayS x 8 24).1
set_option maxHeartbeats 2000000 in
set_option maxRecDepth 100000 in
theorem check_c (x : S40) (A : Option Addr) (c : Nat) (w : World) (hr : Kd.C k40 w A x.f4.length x.f4) (hc : x.f4.length ≤ c) :
    Calls Try.prog 28 #[.agg #[.int .i64 x.f0, .string x.f1, .int .i64 x.f2, .int .i64 x.f3, .slice A x.f4.length c]] w fun e w' => e = .returned (.int .i64 (if mayB x = true then 0 else 1)) ∧ Below w.heap.size w w' := by
  have HL := Aside0.mk (show Blk ((w.alloc (.cells #[.int .i64 x.f0, .string x.f1, .int .i64 x.f2, .int .i64 x.f3, .slice A x.f4.length c] 40)).alloc (.cells #[.int .i64 24] 94)) (w.heap.size + 1) 94 #[.int .i64 24] from blk2 _ _ _)
  have HB := Aside0.mk (show Below w.heap.size w ((w.alloc (.cells #[.int .i64 x.f0, .string x.f1, .int .i64 x.f2, .int .i64 x.f3, .slice A x.f4.length c] 40)).alloc (.cells #[.int .i64 24] 94)) from below_alloc (below_alloc (Below.refl _ _) _) _)
  have HM := Aside0.mk (may_n (SizeOf.sizeOf x + 1) x (Nat.lt_succ_self _) (w.heap.size + 1) 8 24 A c w _ hr hc (Nat.le_succ _) HB.out HL.out)
  have hu40 := Try.underlying40
  have hu94 := Try.underlying94
  unfold mayB
  obtain ⟨r, hr_⟩ : ∃ r, mayS x 8 24 = r := ⟨_, rfl⟩
  rw [hr_] at HM ⊢
  clear hr hc hr_ HL
  obtain ⟨b, l⟩ := r
  dsimp only at HM ⊢
  cases b
  all_goals
    go_enter Try.func28, Try.ntmps28
    go_wp2_with (go_at_call 70; refine HM.out.mono ?_; rintro e w' ⟨rfl, _, hk⟩; have HF := Aside0.mk (hk.base HB.out (Nat.le_succ _)); clear hk)
    go_ret
    exact ⟨rfl, HF.out⟩
end Go.Proofs.Ytgdpabedlghiaaa.Scope
namespace Go.Proofs.Ytgdpabedlghiaaa.PZ
set_option linter.unusedVariables false
open Go.RowKit Go.Proofs.YtgdpabedlghiaaaW.PrintWords
def scope_Check.f (a0_0 : Int) (a0_1 : ByteArray) (a0_2 : Int) (a0_3 : Int) (l0_4 : List S40) : Option Int := some (if Scope.mayB ⟨a0_0, a0_1, a0_2, a0_3, l0_4⟩ = true then 0 else 1)
theorem scope_Check.calls (a0_0 : Int) (a0_1 : ByteArray) (a0_2 : Int) (a0_3 : Int) (A0_4 : Option Addr) (c0_4 : Nat) (l0_4 : List S40) (r : Int) (w : World) (hr0_4 : Kd.C k40 w A0_4 l0_4.length l0_4) (hc0_4 : l0_4.length ≤ c0_4) (h : scope_Check.f a0_0 a0_1 a0_2 a0_3 l0_4 = some r) :
    Calls Try.prog 28 #[.agg #[.int .i64 a0_0, .string a0_1, .int .i64 a0_2, .int .i64 a0_3, .slice A0_4 l0_4.length c0_4]] w fun e w' => e = .returned (.int .i64 r) ∧ Below w.heap.size w w' := by
  obtain rfl := Option.some.inj h
  exact Scope.check_c ⟨a0_0, a0_1, a0_2, a0_3, l0_4⟩ A0_4 c0_4 w hr0_4 hc0_4
def scope_Match.f (a0_0 : Int) (a0_1 : ByteArray) (a0_2 : Int) (a0_3 : Int) (l0_4 : List S40) (a1_0 a1_1 a1_2 a1_3 : ByteArray) (a1_4 a1_5 : Int) : Option Bool := some (Scope.matchB a1_1 a1_2 a1_3 a1_4 ⟨a0_0, a0_1, a0_2, a0_3, l0_4⟩)
theorem scope_Match.calls (a0_0 : Int) (a0_1 : ByteArray) (a0_2 : Int) (a0_3 : Int) (A0_4 : Option Addr) (c0_4 : Nat) (l0_4 : List S40) (a1_0 : ByteArray) (a1_1 : ByteArray) (a1_2 : ByteArray) (a1_3 : ByteArray) (a1_4 : Int) (a1_5 : Int) (r : Bool) (w : World) (hr0_4 : Kd.C k40 w A0_4 l0_4.length l0_4) (hc0_4 : l0_4.length ≤ c0_4) (h : scope_Match.f a0_0 a0_1 a0_2 a0_3 l0_4 a1_0 a1_1 a1_2 a1_3 a1_4 a1_5 = some r) :
    Calls Try.prog 29 #[.agg #[.int .i64 a0_0, .string a0_1, .int .i64 a0_2, .int .i64 a0_3, .slice A0_4 l0_4.length c0_4], .agg #[.string a1_0, .string a1_1, .string a1_2, .string a1_3, .int .i64 a1_4, .int .i64 a1_5]] w fun e w' => e = .returned (.bool r) ∧ Below w.heap.size w w' := by
  obtain rfl := Option.some.inj h
  exact Scope.match_n a1_0 a1_1 a1_2 a1_3 a1_4 a1_5 _ ⟨a0_0, a0_1, a0_2, a0_3, l0_4⟩ (Nat.lt_succ_self _) A0_4 c0_4 w hr0_4 hc0_4
end Go.Proofs.Ytgdpabedlghiaaa.PZ
-- printed for this claim by a program (pall.sh)
namespace Go.Proofs.Ytgdpabedlghiaaa.PZ
open Go.RowKit Go.Proofs.YtgdpabedlghiaaaW.PrintWords Go.Proofs.YtgdpabedlghiaaaW.PrintLast Go.Proofs.YtgdpabedlghiaaaW.PrintMore
attribute [local go_sem] max2_int min2_int max_two min_two max_three min_three max_four min_four   -- for this text's walks alone
set_option linter.unusedVariables false
set_option linter.unusedSimpArgs false

/-! ### hold_holds: function 77 -/
def hold_holds.f (a0_0 : ByteArray) (a0_1 : Int) (a0_2 : ByteArray) (a0_3 : Int) (a0_4 : Int) (l0_5 : List (S40)) (a0_6 : Bool) (a1_0 : ByteArray) (a1_1 : ByteArray) (a1_2 : ByteArray) (a1_3 : ByteArray) (a1_4 : Int) (a1_5 : Int) : Option (Bool) := if a0_6 = true then ((scope_Match.f a0_1 a0_2 a0_3 a0_4 l0_5 a1_0 a1_1 a1_2 a1_3 a1_4 a1_5).bind fun t480 => (some t480)) else (some false)
set_option maxHeartbeats 8000000 in
set_option maxRecDepth 100000 in
theorem hold_holds.calls (a0_0 : ByteArray) (a0_1 : Int) (a0_2 : ByteArray) (a0_3 : Int) (a0_4 : Int) (A0_5 : Option Addr) (c0_5 : Nat) (l0_5 : List (S40)) (a0_6 : Bool) (a1_0 : ByteArray) (a1_1 : ByteArray) (a1_2 : ByteArray) (a1_3 : ByteArray) (a1_4 : Int) (a1_5 : Int) (r : Bool) (w : World) (hr0_5 : Kd.C k40 w A0_5 l0_5.length l0_5) (hc0_5 : l0_5.length ≤ c0_5) (h : hold_holds.f a0_0 a0_1 a0_2 a0_3 a0_4 l0_5 a0_6 a1_0 a1_1 a1_2 a1_3 a1_4 a1_5 = some r) :
    Calls Try.prog 77 #[.agg #[.string a0_0, .int .i64 a0_1, .string a0_2, .int .i64 a0_3, .int .i64 a0_4, .slice A0_5 l0_5.length c0_5, .bool a0_6], .agg #[.string a1_0, .string a1_1, .string a1_2, .string a1_3, .int .i64 a1_4, .int .i64 a1_5]] w fun e w' => e = .returned (.bool r) ∧ Below w.heap.size w w' := by
  have hu52 := Try.underlying52
  have hu46 := Try.underlying46
  have hu40 := Try.underlying40
  have HR0_5 := Aside0.mk hr0_5
  have HC0_5 := Aside0.mk hc0_5
  clear hr0_5 hc0_5
  have HB := Aside0.mk (Below.refl w.heap.size w)
  have H : (if a0_6 = true then ((scope_Match.f a0_1 a0_2 a0_3 a0_4 l0_5 a1_0 a1_1 a1_2 a1_3 a1_4 a1_5).bind fun t480 => (some t480)) else (some false)) = some r := h
  clear h
  by_cases c3 : a0_6 = true
  · subst c3
    have H1 : ((scope_Match.f a0_1 a0_2 a0_3 a0_4 l0_5 a1_0 a1_1 a1_2 a1_3 a1_4 a1_5).bind fun t480 => (some t480)) = some r := by rw [if_pos rfl] at H; exact H
    clear H
    have H := H1
    clear H1
    replace H := Option.bind_eq_some_iff.mp H
    obtain ⟨t480, A40, H⟩ := H
    replace H : (some t480) = some r := H
    have A4 := Aside0.mk A40
    clear A40
    obtain rfl := Option.some.inj H
    go_enter Try.func77, Try.ntmps77
    go_wp2_with (first | ((with_reducible refine gate_dst (N := 2) rfl ?_); refine box_event ?hg (N := 2) ?hd (cs := #[.string a0_0, .int .i64 a0_1, .string a0_2, .int .i64 a0_3, .int .i64 a0_4, .slice A0_5 l0_5.length c0_5, .bool true]) (t := 52) ?hr ?_; (case hd => rfl); (case hg => rfl); (case hr => first | (go_simp; done) | (go_simp; rfl)); intro gb478 hg w5 hbox hb; have n0_ := Aside0.mk (below_step (by repeat (first | (with_reducible first | exact HB.out | apply below_alloc | apply pw_below_drewN | apply below_drew1) | exact HB.out)) hb); have n1_ := Aside0.mk (hbox); have n2_ := Aside0.mk ((by rw [hg]; exact (below_size (by repeat (first | (with_reducible first | exact HB.out | apply below_alloc | apply pw_below_drewN | apply below_drew1) | exact HB.out))) : w.heap.size ≤ gb478)); have n3_ := Aside0.mk ((by rw [hg]; exact (below_size (by repeat (first | (with_reducible first | exact HB.out | apply below_alloc | apply pw_below_drewN | apply below_drew1) | exact HB.out))) : w.heap.size ≤ gb478)); clear HB; have HB := n0_; have BK478 := n1_; have GW478 := n2_; have GE478 := n3_; clear n0_ n1_ n2_ n3_; clear hb hbox hg) | ((with_reducible refine gate_dst (N := 3) rfl ?_); refine box_event ?hg (N := 3) ?hd (cs := #[.string a1_0, .string a1_1, .string a1_2, .string a1_3, .int .i64 a1_4, .int .i64 a1_5]) (t := 46) ?hr ?_; (case hd => rfl); (case hg => rfl); (case hr => first | (go_simp; done) | (go_simp; rfl)); intro gb479 hg w6 hbox hb; have n0_ := Aside0.mk (blk_below (g := gb478) (o := .cells #[.string a0_0, .int .i64 a0_1, .string a0_2, .int .i64 a0_3, .int .i64 a0_4, .slice A0_5 l0_5.length c0_5, .bool true] 52 (0, 0)) (by (with_reducible repeat (first | refine blk_drewN ?_ _ | refine blk_drew ?_ | refine blk_alloc ?_ _)); exact BK478.out) hb); have n1_ := Aside0.mk (below_step (by repeat (first | (with_reducible first | exact HB.out | apply below_alloc | apply pw_below_drewN | apply below_drew1 | refine below_set ?_ GE478.out) | exact HB.out)) hb); have n2_ := Aside0.mk (hbox); have n3_ := Aside0.mk ((by rw [hg]; exact (below_size (by repeat (first | (with_reducible first | exact HB.out | apply below_alloc | apply pw_below_drewN | apply below_drew1 | refine below_set ?_ GE478.out) | exact HB.out))) : w.heap.size ≤ gb479)); have n4_ := Aside0.mk ((by rw [hg]; exact (below_size (by repeat (first | (with_reducible first | exact HB.out | apply below_alloc | apply pw_below_drewN | apply below_drew1 | refine below_set ?_ GE478.out) | exact HB.out))) : w.heap.size ≤ gb479)); have n5_ := Aside0.mk ((by rw [hg]; exact Nat.ne_of_lt (blk_lt (g := gb478) (o := .cells #[.string a0_0, .int .i64 a0_1, .string a0_2, .int .i64 a0_3, .int .i64 a0_4, .slice A0_5 l0_5.length c0_5, .bool true] 52 (0, 0)) (by (with_reducible repeat (first | refine blk_drewN ?_ _ | refine blk_drew ?_ | refine blk_alloc ?_ _)); exact BK478.out)) : gb478 ≠ gb479)); have n6_ := Aside0.mk ((by rw [hg]; exact Nat.ne_of_gt (blk_lt (g := gb478) (o := .cells #[.string a0_0, .int .i64 a0_1, .string a0_2, .int .i64 a0_3, .int .i64 a0_4, .slice A0_5 l0_5.length c0_5, .bool true] 52 (0, 0)) (by (with_reducible repeat (first | refine blk_drewN ?_ _ | refine blk_drew ?_ | refine blk_alloc ?_ _)); exact BK478.out)) : gb479 ≠ gb478)); clear BK478; clear HB; have BK478 := n0_; have HB := n1_; have BK479 := n2_; have GW479 := n3_; have GE479 := n4_; have NB478_479 := n5_; have NB479_478 := n6_; clear n0_ n1_ n2_ n3_ n4_ n5_ n6_; clear hb hbox hg; have hnb7 := NB478_479.out; have hnc7 := NB479_478.out; have hcz8_0 : w6.cell? ⟨gb478, 0, none⟩ = some (.string a0_0) := (blk_cell BK478.out 0).trans rfl; have hcz8_1 : w6.cell? ⟨gb478, 1, none⟩ = some (.int .i64 a0_1) := (blk_cell BK478.out 1).trans rfl; have hcz8_2 : w6.cell? ⟨gb478, 2, none⟩ = some (.string a0_2) := (blk_cell BK478.out 2).trans rfl; have hcz8_3 : w6.cell? ⟨gb478, 3, none⟩ = some (.int .i64 a0_3) := (blk_cell BK478.out 3).trans rfl; have hcz8_4 : w6.cell? ⟨gb478, 4, none⟩ = some (.int .i64 a0_4) := (blk_cell BK478.out 4).trans rfl; have hcz8_5 : w6.cell? ⟨gb478, 5, none⟩ = some (.slice A0_5 l0_5.length c0_5) := (blk_cell BK478.out 5).trans rfl; have hcz8_6 : w6.cell? ⟨gb478, 6, none⟩ = some (.bool true) := (blk_cell BK478.out 6).trans rfl; have hfz8_0 := blk_frozen BK478.out 0; have hfz8_1 := blk_frozen BK478.out 1; have hfz8_2 := blk_frozen BK478.out 2; have hfz8_3 := blk_frozen BK478.out 3; have hfz8_4 := blk_frozen BK478.out 4; have hfz8_5 := blk_frozen BK478.out 5; have hfz8_6 := blk_frozen BK478.out 6; have hcz9_0 : w6.cell? ⟨gb479, 0, none⟩ = some (.string a1_0) := (blk_cell BK479.out 0).trans rfl; have hcz9_1 : w6.cell? ⟨gb479, 1, none⟩ = some (.string a1_1) := (blk_cell BK479.out 1).trans rfl; have hcz9_2 : w6.cell? ⟨gb479, 2, none⟩ = some (.string a1_2) := (blk_cell BK479.out 2).trans rfl; have hcz9_3 : w6.cell? ⟨gb479, 3, none⟩ = some (.string a1_3) := (blk_cell BK479.out 3).trans rfl; have hcz9_4 : w6.cell? ⟨gb479, 4, none⟩ = some (.int .i64 a1_4) := (blk_cell BK479.out 4).trans rfl; have hcz9_5 : w6.cell? ⟨gb479, 5, none⟩ = some (.int .i64 a1_5) := (blk_cell BK479.out 5).trans rfl; have hfz9_0 := blk_frozen BK479.out 0; have hfz9_1 := blk_frozen BK479.out 1; have hfz9_2 := blk_frozen BK479.out 2; have hfz9_3 := blk_frozen BK479.out 3; have hfz9_4 := blk_frozen BK479.out 4; have hfz9_5 := blk_frozen BK479.out 5) | (go_at_call 29; (with_reducible refine (scope_Match.calls a0_1 a0_2 a0_3 a0_4 _ _ l0_5 a1_0 a1_1 a1_2 a1_3 a1_4 a1_5 t480 _ ?side1 ?side2 A4.out).mono ?_); (case side1 => repeat (first | exact (Kd.C_below HR0_5.out HB.out) | (with_reducible refine Kd.C_alloc ?_ _) | (with_reducible refine Kd.C_drewN ?_ _) | (with_reducible refine Kd.C_drew ?_))); (case side2 => exact HC0_5.out); rintro e w10 ⟨rfl, hb⟩; have n0_ := Aside0.mk (blk_below (g := gb478) (o := .cells #[.string a0_0, .int .i64 a0_1, .string a0_2, .int .i64 a0_3, .int .i64 a0_4, .slice A0_5 l0_5.length c0_5, .bool true] 52 (0, 0)) (by (with_reducible repeat (first | refine blk_drewN ?_ _ | refine blk_drew ?_ | refine blk_alloc ?_ _)); exact BK478.out) hb); have n1_ := Aside0.mk (blk_below (g := gb479) (o := .cells #[.string a1_0, .string a1_1, .string a1_2, .string a1_3, .int .i64 a1_4, .int .i64 a1_5] 46 (0, 0)) (by (with_reducible repeat (first | refine blk_drewN ?_ _ | refine blk_drew ?_ | refine blk_alloc ?_ _)); exact BK479.out) hb); have n2_ := Aside0.mk (below_step (by repeat (first | (with_reducible first | exact HB.out | apply below_alloc | apply pw_below_drewN | apply below_drew1 | refine below_set ?_ GE478.out | refine below_set ?_ GE479.out) | exact HB.out)) hb); clear BK478; clear BK479; clear HB; have BK478 := n0_; have BK479 := n1_; have HB := n2_; clear n0_ n1_ n2_; (try clear hb); (try clear hb2); (try clear hk); (try clear hi)))
    go_ret
    exact ⟨by first | rfl | (simp [errW_none, errW_some] <;> rfl) | (simp [*, errW_none, errW_some] <;> rfl), by repeat (first | (with_reducible first | exact HB.out | apply below_alloc | apply pw_below_drewN | apply below_drew1 | refine below_set ?_ GE478.out | refine below_set ?_ GE479.out) | exact HB.out)⟩
  · replace c3 := Bool.eq_false_iff.mpr c3
    subst c3
    have H1 : (some false) = some r := by rw [if_neg (show ¬ (false = true) by decide)] at H; exact H
    clear H
    have H := H1
    clear H1
    obtain rfl := Option.some.inj H
    go_enter Try.func77, Try.ntmps77
    go_wp2_with (first | ((with_reducible refine gate_dst (N := 2) rfl ?_); refine box_event ?hg (N := 2) ?hd (cs := #[.string a0_0, .int .i64 a0_1, .string a0_2, .int .i64 a0_3, .int .i64 a0_4, .slice A0_5 l0_5.length c0_5, .bool false]) (t := 52) ?hr ?_; (case hd => rfl); (case hg => rfl); (case hr => first | (go_simp; done) | (go_simp; rfl)); intro gb478 hg w11 hbox hb; have n0_ := Aside0.mk (below_step (by repeat (first | (with_reducible first | exact HB.out | apply below_alloc | apply pw_below_drewN | apply below_drew1) | exact HB.out)) hb); have n1_ := Aside0.mk (hbox); have n2_ := Aside0.mk ((by rw [hg]; exact (below_size (by repeat (first | (with_reducible first | exact HB.out | apply below_alloc | apply pw_below_drewN | apply below_drew1) | exact HB.out))) : w.heap.size ≤ gb478)); have n3_ := Aside0.mk ((by rw [hg]; exact (below_size (by repeat (first | (with_reducible first | exact HB.out | apply below_alloc | apply pw_below_drewN | apply below_drew1) | exact HB.out))) : w.heap.size ≤ gb478)); clear HB; have HB := n0_; have BK478 := n1_; have GW478 := n2_; have GE478 := n3_; clear n0_ n1_ n2_ n3_; clear hb hbox hg) | ((with_reducible refine gate_dst (N := 3) rfl ?_); refine box_event ?hg (N := 3) ?hd (cs := #[.string a1_0, .string a1_1, .string a1_2, .string a1_3, .int .i64 a1_4, .int .i64 a1_5]) (t := 46) ?hr ?_; (case hd => rfl); (case hg => rfl); (case hr => first | (go_simp; done) | (go_simp; rfl)); intro gb479 hg w12 hbox hb; have n0_ := Aside0.mk (blk_below (g := gb478) (o := .cells #[.string a0_0, .int .i64 a0_1, .string a0_2, .int .i64 a0_3, .int .i64 a0_4, .slice A0_5 l0_5.length c0_5, .bool false] 52 (0, 0)) (by (with_reducible repeat (first | refine blk_drewN ?_ _ | refine blk_drew ?_ | refine blk_alloc ?_ _)); exact BK478.out) hb); have n1_ := Aside0.mk (below_step (by repeat (first | (with_reducible first | exact HB.out | apply below_alloc | apply pw_below_drewN | apply below_drew1 | refine below_set ?_ GE478.out) | exact HB.out)) hb); have n2_ := Aside0.mk (hbox); have n3_ := Aside0.mk ((by rw [hg]; exact (below_size (by repeat (first | (with_reducible first | exact HB.out | apply below_alloc | apply pw_below_drewN | apply below_drew1 | refine below_set ?_ GE478.out) | exact HB.out))) : w.heap.size ≤ gb479)); have n4_ := Aside0.mk ((by rw [hg]; exact (below_size (by repeat (first | (with_reducible first | exact HB.out | apply below_alloc | apply pw_below_drewN | apply below_drew1 | refine below_set ?_ GE478.out) | exact HB.out))) : w.heap.size ≤ gb479)); have n5_ := Aside0.mk ((by rw [hg]; exact Nat.ne_of_lt (blk_lt (g := gb478) (o := .cells #[.string a0_0, .int .i64 a0_1, .string a0_2, .int .i64 a0_3, .int .i64 a0_4, .slice A0_5 l0_5.length c0_5, .bool false] 52 (0, 0)) (by (with_reducible repeat (first | refine blk_drewN ?_ _ | refine blk_drew ?_ | refine blk_alloc ?_ _)); exact BK478.out)) : gb478 ≠ gb479)); have n6_ := Aside0.mk ((by rw [hg]; exact Nat.ne_of_gt (blk_lt (g := gb478) (o := .cells #[.string a0_0, .int .i64 a0_1, .string a0_2, .int .i64 a0_3, .int .i64 a0_4, .slice A0_5 l0_5.length c0_5, .bool false] 52 (0, 0)) (by (with_reducible repeat (first | refine blk_drewN ?_ _ | refine blk_drew ?_ | refine blk_alloc ?_ _)); exact BK478.out)) : gb479 ≠ gb478)); clear BK478; clear HB; have BK478 := n0_; have HB := n1_; have BK479 := n2_; have GW479 := n3_; have GE479 := n4_; have NB478_479 := n5_; have NB479_478 := n6_; clear n0_ n1_ n2_ n3_ n4_ n5_ n6_; clear hb hbox hg; have hnb13 := NB478_479.out; have hnc13 := NB479_478.out; have hcz14_0 : w12.cell? ⟨gb478, 0, none⟩ = some (.string a0_0) := (blk_cell BK478.out 0).trans rfl; have hcz14_1 : w12.cell? ⟨gb478, 1, none⟩ = some (.int .i64 a0_1) := (blk_cell BK478.out 1).trans rfl; have hcz14_2 : w12.cell? ⟨gb478, 2, none⟩ = some (.string a0_2) := (blk_cell BK478.out 2).trans rfl; have hcz14_3 : w12.cell? ⟨gb478, 3, none⟩ = some (.int .i64 a0_3) := (blk_cell BK478.out 3).trans rfl; have hcz14_4 : w12.cell? ⟨gb478, 4, none⟩ = some (.int .i64 a0_4) := (blk_cell BK478.out 4).trans rfl; have hcz14_5 : w12.cell? ⟨gb478, 5, none⟩ = some (.slice A0_5 l0_5.length c0_5) := (blk_cell BK478.out 5).trans rfl; have hcz14_6 : w12.cell? ⟨gb478, 6, none⟩ = some (.bool false) := (blk_cell BK478.out 6).trans rfl; have hfz14_0 := blk_frozen BK478.out 0; have hfz14_1 := blk_frozen BK478.out 1; have hfz14_2 := blk_frozen BK478.out 2; have hfz14_3 := blk_frozen BK478.out 3; have hfz14_4 := blk_frozen BK478.out 4; have hfz14_5 := blk_frozen BK478.out 5; have hfz14_6 := blk_frozen BK478.out 6))
    go_ret
    exact ⟨by first | rfl | (simp [errW_none, errW_some] <;> rfl) | (simp [*, errW_none, errW_some] <;> rfl), by repeat (first | (with_reducible first | exact HB.out | apply below_alloc | apply pw_below_drewN | apply below_drew1 | refine below_set ?_ GE478.out | refine below_set ?_ GE479.out) | exact HB.out)⟩

end Go.Proofs.Ytgdpabedlghiaaa.PZ
/- slices.IndexFunc, ContainsFunc over holds; hold.find, hold.Held (printed by gen_hold.py). -/
namespace Go.Proofs.Ytgdpabedlghiaaa.Scope
set_option linter.unusedVariables false
set_option linter.unusedSimpArgs false
open Go.RowKit Go.Proofs.YtgdpabedlghiaaaW.PrintWords Go.Proofs.YtgdpabedlghiaaaW.PrintLast Go.Proofs.YtgdpabedlghiaaaW.PrintMore Go.Proofs.Ytgdpabedlghiaaa.PZ

set_option maxHeartbeats 2000000 in
set_option maxRecDepth 100000 in
theorem idx_find {σ : Type} (g0 : Nat) (step : S52 → σ → Bool × σ) (Inv : σ → World → Prop) (A : Option Addr) (xs : List S52) (c : Nat) (v0 : World) (hrow : Kd.C k52 v0 A xs.length xs) (hbase : ∀ s W, Inv s W → Below v0.heap.size v0 W)
    (hp : ∀ x ∈ xs, ∀ s W A4 c4, Inv s W → Kd.C k40 v0 A4 x.f1.f4.length x.f1.f4 → x.f1.f4.length ≤ c4 → Calls Try.prog 117 #[.agg #[.string x.f0, .int .i64 x.f1.f0, .string x.f1.f1, .int .i64 x.f1.f2, .int .i64 x.f1.f3, .slice A4 x.f1.f4.length c4, .bool x.f2], .pointer (some ⟨g0, 0, none⟩)] W fun e w' => e = .returned (.bool (step x s).1) ∧ Inv (step x s).2 w')
    (s0 : σ) (w : World) (h0 : Inv s0 w) :
    Calls Try.prog 116 #[.slice A xs.length c, .func (.func 117) #[] #[.pointer (some ⟨g0, 0, none⟩)]] w fun e w' => e = .returned (.int .i64 (runIdx step xs 0 s0).1) ∧ Inv (runIdx step xs 0 s0).2 w' := by
  have HR := Aside0.mk hrow
  have HP := Aside0.mk hp
  have H0 := Aside0.mk h0
  have HM := Aside0.mk hrow.2.1
  have HBS := Aside0.mk hbase
  have hu50 := Try.underlying50
  have hu52 := Try.underlying52
  clear hrow hp h0 hbase
  go_enter Try.func116, Try.ntmps116
  go_wp2
  go_loopg [8] xs.length (fun gf s8 wx => ∃ (i : Nat) (s : σ), s8 = .int .i64 (i : Int) ∧ i + gf = xs.length ∧ Inv s wx ∧ runIdx step (xs.drop i) i s = runIdx step xs 0 s0)
  case atStart => exact ⟨0, s0, rfl, by omega, H0.out, rfl⟩
  case round =>
    obtain ⟨i, s, rfl, hi, hinv, hrun⟩ := hrel
    have HI := Aside0.mk hinv
    have HU := Aside0.mk hrun
    have HG := Aside0.mk hi
    clear hinv hrun hi
    by_cases hlt : i < xs.length
    · have hl1 : decide ((i : Int) < (xs.length : Int)) = true := decide_eq_true (by omega)
      have hw1 : wrap64 ((i : Int) + 1) = ((i + 1 : Nat) : Int) := by rw [Aid.w64 (by omega) (by have := HM.out; omega)]; omega
      have HX := Aside0.mk (List.getElem_mem hlt)
      obtain ⟨ad, A4, c4, rfl, hx0, hx1, hx2, hx3, hx4, hx5, hx6, hl4, hi4⟩ := at_T52 HR.out (i : Int) (by omega) (by omega)
      have hrd : rd_T52 xs (i : Int) = xs[i] := by simp [rd_T52, List.getD_eq_getElem?_getD, List.getElem?_eq_getElem hlt]
      have hbm := HBS.out s wr HI.out
      replace hx0 := (hbm.cell (World.block_lt_of_cell? _ _ hx0)).trans hx0
      replace hx1 := (hbm.cell (World.block_lt_of_cell? _ _ hx1)).trans hx1
      replace hx2 := (hbm.cell (World.block_lt_of_cell? _ _ hx2)).trans hx2
      replace hx3 := (hbm.cell (World.block_lt_of_cell? _ _ hx3)).trans hx3
      replace hx5 := (hbm.cell (World.block_lt_of_cell? _ _ hx5)).trans hx5
      replace hx6 := (hbm.cell (World.block_lt_of_cell? _ _ hx6)).trans hx6
      replace hx4 := (hbm.cell (World.block_lt_of_cell? _ _ hx4)).trans hx4
      clear hbm
      rw [hrd] at hx0 hx1 hx2 hx3 hx4 hx5 hx6 hl4 hi4
      simp only [Int.toNat_natCast] at hx0 hx1 hx2 hx3 hx4 hx5 hx6
      have HC := Aside0.mk (HP.out xs[i] HX.out s wr A4 c4 HI.out hi4 hl4)
      have HD := Aside0.mk (List.drop_eq_getElem_cons hlt)
      obtain ⟨x, hx⟩ : ∃ x, xs[i] = x := ⟨_, rfl⟩
      rw [hx] at hx0 hx1 hx2 hx3 hx4 hx5 hx6 HC HD
      rw [HD.out, runIdx] at HU
      clear hx hrd hl4 hi4 HX HD
      have p1 : (0 : Int) ≤ (i : Int) := by omega
      have p2 : (i : Int) < (xs.length : Int) := by omega
      obtain ⟨b, hb⟩ : ∃ b, (step x s).1 = b := ⟨_, rfl⟩
      rw [hb] at HC HU
      clear hb
      cases b with
      | true =>
        rw [if_pos rfl] at HU
        go_wp2_with (go_at_call 117; refine HC.out.mono ?_; rintro e w' ⟨rfl, hv⟩; have HV := Aside0.mk hv; clear hv)
        go_ret
        rw [← HU.out]
        exact ⟨rfl, HV.out⟩
      | false =>
        rw [if_neg (by decide)] at HU
        go_wp2_with (go_at_call 117; refine HC.out.mono ?_; rintro e w' ⟨rfl, hv⟩; have HV := Aside0.mk hv; clear hv)
        go_roundg (xs.length - (i + 1))
        case measure => have := HG.out; omega
        case rel => exact ⟨i + 1, (step x s).2, by first | rfl | rw [hw1], by omega, HV.out, HU.out⟩
    · have hl1 : decide ((i : Int) < (xs.length : Int)) = false := decide_eq_false (by omega)
      have HE := Aside0.mk (List.drop_eq_nil_of_le (show xs.length ≤ i by omega))
      rw [HE.out, runIdx] at HU
      go_wp2
      go_ret
      rw [← HU.out]
      exact ⟨rfl, HI.out⟩

set_option maxHeartbeats 2000000 in
set_option maxRecDepth 100000 in
theorem idx_held {σ : Type} (g0 : Nat) (step : S52 → σ → Bool × σ) (Inv : σ → World → Prop) (A : Option Addr) (xs : List S52) (c : Nat) (v0 : World) (hrow : Kd.C k52 v0 A xs.length xs) (hbase : ∀ s W, Inv s W → Below v0.heap.size v0 W)
    (hp : ∀ x ∈ xs, ∀ s W A4 c4, Inv s W → Kd.C k40 v0 A4 x.f1.f4.length x.f1.f4 → x.f1.f4.length ≤ c4 → Calls Try.prog 76 #[.agg #[.string x.f0, .int .i64 x.f1.f0, .string x.f1.f1, .int .i64 x.f1.f2, .int .i64 x.f1.f3, .slice A4 x.f1.f4.length c4, .bool x.f2], .pointer (some ⟨g0, 0, none⟩)] W fun e w' => e = .returned (.bool (step x s).1) ∧ Inv (step x s).2 w')
    (s0 : σ) (w : World) (h0 : Inv s0 w) :
    Calls Try.prog 116 #[.slice A xs.length c, .func (.func 76) #[] #[.pointer (some ⟨g0, 0, none⟩)]] w fun e w' => e = .returned (.int .i64 (runIdx step xs 0 s0).1) ∧ Inv (runIdx step xs 0 s0).2 w' := by
  have HR := Aside0.mk hrow
  have HP := Aside0.mk hp
  have H0 := Aside0.mk h0
  have HM := Aside0.mk hrow.2.1
  have HBS := Aside0.mk hbase
  have hu50 := Try.underlying50
  have hu52 := Try.underlying52
  clear hrow hp h0 hbase
  go_enter Try.func116, Try.ntmps116
  go_wp2
  go_loopg [8] xs.length (fun gf s8 wx => ∃ (i : Nat) (s : σ), s8 = .int .i64 (i : Int) ∧ i + gf = xs.length ∧ Inv s wx ∧ runIdx step (xs.drop i) i s = runIdx step xs 0 s0)
  case atStart => exact ⟨0, s0, rfl, by omega, H0.out, rfl⟩
  case round =>
    obtain ⟨i, s, rfl, hi, hinv, hrun⟩ := hrel
    have HI := Aside0.mk hinv
    have HU := Aside0.mk hrun
    have HG := Aside0.mk hi
    clear hinv hrun hi
    by_cases hlt : i < xs.length
    · have hl1 : decide ((i : Int) < (xs.length : Int)) = true := decide_eq_true (by omega)
      have hw1 : wrap64 ((i : Int) + 1) = ((i + 1 : Nat) : Int) := by rw [Aid.w64 (by omega) (by have := HM.out; omega)]; omega
      have HX := Aside0.mk (List.getElem_mem hlt)
      obtain ⟨ad, A4, c4, rfl, hx0, hx1, hx2, hx3, hx4, hx5, hx6, hl4, hi4⟩ := at_T52 HR.out (i : Int) (by omega) (by omega)
      have hrd : rd_T52 xs (i : Int) = xs[i] := by simp [rd_T52, List.getD_eq_getElem?_getD, List.getElem?_eq_getElem hlt]
      have hbm := HBS.out s wr HI.out
      replace hx0 := (hbm.cell (World.block_lt_of_cell? _ _ hx0)).trans hx0
      replace hx1 := (hbm.cell (World.block_lt_of_cell? _ _ hx1)).trans hx1
      replace hx2 := (hbm.cell (World.block_lt_of_cell? _ _ hx2)).trans hx2
      replace hx3 := (hbm.cell (World.block_lt_of_cell? _ _ hx3)).trans hx3
      replace hx5 := (hbm.cell (World.block_lt_of_cell? _ _ hx5)).trans hx5
      replace hx6 := (hbm.cell (World.block_lt_of_cell? _ _ hx6)).trans hx6
      replace hx4 := (hbm.cell (World.block_lt_of_cell? _ _ hx4)).trans hx4
      clear hbm
      rw [hrd] at hx0 hx1 hx2 hx3 hx4 hx5 hx6 hl4 hi4
      simp only [Int.toNat_natCast] at hx0 hx1 hx2 hx3 hx4 hx5 hx6
      have HC := Aside0.mk (HP.out xs[i] HX.out s wr A4 c4 HI.out hi4 hl4)
      have HD := Aside0.mk (List.drop_eq_getElem_cons hlt)
      obtain ⟨x, hx⟩ : ∃ x, xs[i] = x := ⟨_, rfl⟩
      rw [hx] at hx0 hx1 hx2 hx3 hx4 hx5 hx6 HC HD
      rw [HD.out, runIdx] at HU
      clear hx hrd hl4 hi4 HX HD
      have p1 : (0 : Int) ≤ (i : Int) := by omega
      have p2 : (i : Int) < (xs.length : Int) := by omega
      obtain ⟨b, hb⟩ : ∃ b, (step x s).1 = b := ⟨_, rfl⟩
      rw [hb] at HC HU
      clear hb
      cases b with
      | true =>
        rw [if_pos rfl] at HU
        go_wp2_with (go_at_call 76; refine HC.out.mono ?_; rintro e w' ⟨rfl, hv⟩; have HV := Aside0.mk hv; clear hv)
        go_ret
        rw [← HU.out]
        exact ⟨rfl, HV.out⟩
      | false =>
        rw [if_neg (by decide)] at HU
        go_wp2_with (go_at_call 76; refine HC.out.mono ?_; rintro e w' ⟨rfl, hv⟩; have HV := Aside0.mk hv; clear hv)
        go_roundg (xs.length - (i + 1))
        case measure => have := HG.out; omega
        case rel => exact ⟨i + 1, (step x s).2, by first | rfl | rw [hw1], by omega, HV.out, HU.out⟩
    · have hl1 : decide ((i : Int) < (xs.length : Int)) = false := decide_eq_false (by omega)
      have HE := Aside0.mk (List.drop_eq_nil_of_le (show xs.length ≤ i by omega))
      rw [HE.out, runIdx] at HU
      go_wp2
      go_ret
      rw [← HU.out]
      exact ⟨rfl, HI.out⟩
set_option maxHeartbeats 1000000 in
theorem any_held {σ : Type} (g0 : Nat) (step : S52 → σ → Bool × σ) (Inv : σ → World → Prop) (A : Option Addr) (xs : List S52) (c : Nat) (v0 : World) (hrow : Kd.C k52 v0 A xs.length xs) (hbase : ∀ s W, Inv s W → Below v0.heap.size v0 W)
    (hp : ∀ x ∈ xs, ∀ s W A4 c4, Inv s W → Kd.C k40 v0 A4 x.f1.f4.length x.f1.f4 → x.f1.f4.length ≤ c4 → Calls Try.prog 76 #[.agg #[.string x.f0, .int .i64 x.f1.f0, .string x.f1.f1, .int .i64 x.f1.f2, .int .i64 x.f1.f3, .slice A4 x.f1.f4.length c4, .bool x.f2], .pointer (some ⟨g0, 0, none⟩)] W fun e w' => e = .returned (.bool (step x s).1) ∧ Inv (step x s).2 w')
    (s0 : σ) (w : World) (h0 : Inv s0 w) :
    Calls Try.prog 75 #[.slice A xs.length c, .func (.func 76) #[] #[.pointer (some ⟨g0, 0, none⟩)]] w fun e w' => e = .returned (.bool (runAny step xs s0).1) ∧ Inv (runAny step xs s0).2 w' := by
  have HC := Aside0.mk (idx_held g0 step Inv A xs c v0 hrow hbase hp s0 w h0)
  have HB := Aside0.mk (runIdx_any step xs 0 s0)
  obtain ⟨r, hr⟩ : ∃ r, runIdx step xs 0 s0 = r := ⟨_, rfl⟩
  rw [hr] at HC HB
  rw [← HB.out.1, ← HB.out.2]
  clear hr hrow hp h0 HB hbase
  obtain ⟨j, s⟩ := r
  obtain ⟨b, hb⟩ : ∃ b, decide (j ≥ 0) = b := ⟨_, rfl⟩
  have hb2 : decide ((0 : Int) ≤ j) = b := hb
  rw [hb]
  go_enter Try.func75, Try.ntmps75
  go_wp2_with (go_at_call 116; refine HC.out.mono ?_; rintro e w' ⟨rfl, hv⟩; have HV := Aside0.mk hv; clear hv)
  go_ret
  exact ⟨rfl, HV.out⟩

/-- The place of a hold; -1: there is none. -/
def findB (l : List S52) (id : ByteArray) : Int := (runIdx (fun (h : S52) (_ : Unit) => (h.f0.toList == id.toList, ())) l 0 ()).1
set_option maxHeartbeats 1000000 in
theorem find1_c (x : S52) (id : ByteArray) (g : Nat) (A : Option Addr) (c : Nat) (w : World) (hg : Blk w g 9 #[.string id]) :
    Calls Try.prog 117 #[.agg #[.string x.f0, .int .i64 x.f1.f0, .string x.f1.f1, .int .i64 x.f1.f2, .int .i64 x.f1.f3, .slice A x.f1.f4.length c, .bool x.f2], .pointer (some ⟨g, 0, none⟩)] w fun e w' => e = .returned (.bool (x.f0.toList == id.toList)) ∧ Below w.heap.size w w' := by
  have HB := Aside0.mk (below_alloc (Below.refl w.heap.size w) (.cells #[.string x.f0, .int .i64 x.f1.f0, .string x.f1.f1, .int .i64 x.f1.f2, .int .i64 x.f1.f3, .slice A x.f1.f4.length c, .bool x.f2] 52))
  have d0 := (hg.alloc (.cells #[.string x.f0, .int .i64 x.f1.f0, .string x.f1.f1, .int .i64 x.f1.f2, .int .i64 x.f1.f3, .slice A x.f1.f4.length c, .bool x.f2] 52)).cell 0
  simp only [List.getElem?_toArray, List.getElem?_cons_zero] at d0
  have hu52 := Try.underlying52
  clear hg
  go_enter Try.func117, Try.ntmps117
  go_wp2
  go_ret
  exact ⟨rfl, HB.out⟩
set_option maxHeartbeats 1000000 in
theorem find_c (l : List S52) (id : ByteArray) (A : Option Addr) (c : Nat) (w : World) (hr : Kd.C k52 w A l.length l) :
    Calls Try.prog 79 #[.slice A l.length c, .string id] w fun e w' => e = .returned (.int .i64 (findB l id)) ∧ Below w.heap.size w w' := by
  have HC := Aside0.mk (idx_find w.heap.size (fun (h : S52) (_ : Unit) => (h.f0.toList == id.toList, ())) (fun _ W => Blk W w.heap.size 9 #[.string id] ∧ Below w.heap.size w W) A l c w hr (fun _ W h => h.2) (by
    intro x hx _ W A4 c4 hi h1 h2
    refine (find1_c x id w.heap.size A4 c4 W hi.1).mono ?_
    rintro e w' ⟨rfl, hb⟩
    exact ⟨rfl, hi.1.below hb, below_step hi.2 hb⟩) () (w.alloc (.cells #[.string id] 9)) ⟨blk_new _ _, below_alloc (Below.refl _ _) _⟩)
  unfold findB
  obtain ⟨r, hr_⟩ : ∃ r, runIdx (fun (h : S52) (_ : Unit) => (h.f0.toList == id.toList, ())) l 0 () = r := ⟨_, rfl⟩
  rw [hr_] at HC ⊢
  clear hr hr_
  obtain ⟨j, u⟩ := r
  dsimp only at HC ⊢
  go_enter Try.func79, Try.ntmps79
  go_wp2_with (go_at_call 116; refine HC.out.mono ?_; rintro e w' ⟨rfl, hv⟩; have HV := Aside0.mk hv.2; clear hv)
  go_ret
  exact ⟨rfl, HV.out⟩
/-- Does a hold hold a record? -/
def holdsB (q1 q2 q3 : ByteArray) (t : Int) (h : S52) : Bool := h.f2 && matchB q1 q2 q3 t h.f1
theorem holds_v (x : S52) (q0 q1 q2 q3 : ByteArray) (t u : Int) : hold_holds.f x.f0 x.f1.f0 x.f1.f1 x.f1.f2 x.f1.f3 x.f1.f4 x.f2 q0 q1 q2 q3 t u = some (holdsB q1 q2 q3 t x) := by
  unfold hold_holds.f holdsB
  obtain ⟨id, sc, act⟩ := x
  obtain ⟨_, _, _, _, _⟩ := sc
  cases act <;> rfl
set_option maxHeartbeats 1000000 in
theorem held1_c (x : S52) (q0 q1 q2 q3 : ByteArray) (t u : Int) (g : Nat) (A : Option Addr) (c : Nat) (w : World) (hg : Blk w g 46 #[.string q0, .string q1, .string q2, .string q3, .int .i64 t, .int .i64 u]) (hr : Kd.C k40 w A x.f1.f4.length x.f1.f4) (hc : x.f1.f4.length ≤ c) :
    Calls Try.prog 76 #[.agg #[.string x.f0, .int .i64 x.f1.f0, .string x.f1.f1, .int .i64 x.f1.f2, .int .i64 x.f1.f3, .slice A x.f1.f4.length c, .bool x.f2], .pointer (some ⟨g, 0, none⟩)] w fun e w' => e = .returned (.bool (holdsB q1 q2 q3 t x)) ∧ Below w.heap.size w w' := by
  have HB := Aside0.mk (below_alloc (Below.refl w.heap.size w) (.cells #[.string x.f0, .int .i64 x.f1.f0, .string x.f1.f1, .int .i64 x.f1.f2, .int .i64 x.f1.f3, .slice A x.f1.f4.length c, .bool x.f2] 52))
  have HG := Aside0.mk (hg.alloc (.cells #[.string x.f0, .int .i64 x.f1.f0, .string x.f1.f1, .int .i64 x.f1.f2, .int .i64 x.f1.f3, .slice A x.f1.f4.length c, .bool x.f2] 52))
  have HC := Aside0.mk (fun W (h : Kd.C k40 W A x.f1.f4.length x.f1.f4) => hold_holds.calls x.f0 x.f1.f0 x.f1.f1 x.f1.f2 x.f1.f3 A c x.f1.f4 x.f2 q0 q1 q2 q3 t u _ W h hc (holds_v x q0 q1 q2 q3 t u))
  have HR := Aside0.mk hr
  have d0 := HG.out.cell 0
  have d1 := HG.out.cell 1
  have d2 := HG.out.cell 2
  have d3 := HG.out.cell 3
  have d4 := HG.out.cell 4
  have d5 := HG.out.cell 5
  simp only [List.getElem?_toArray, List.getElem?_cons_zero, List.getElem?_cons_succ] at d0 d1 d2 d3 d4 d5
  have hu52 := Try.underlying52
  have hu46 := Try.underlying46
  obtain ⟨b, hb⟩ : ∃ b, holdsB q1 q2 q3 t x = b := ⟨_, rfl⟩
  rw [hb] at HC ⊢
  clear hg hr hc hb
  go_enter Try.func76, Try.ntmps76
  go_wp2_with (go_at_call 77; refine (HC.out _ (Kd.C_below HR.out HB.out)).mono ?_; rintro e w' ⟨rfl, hb⟩; have HF := Aside0.mk (below_step HB.out hb); clear hb)
  go_ret
  exact ⟨rfl, HF.out⟩
set_option maxHeartbeats 1000000 in
theorem held_c (l : List S52) (q0 q1 q2 q3 : ByteArray) (t u : Int) (A : Option Addr) (c : Nat) (w : World) (hr : Kd.C k52 w A l.length l) :
    Calls Try.prog 34 #[.slice A l.length c, .agg #[.string q0, .string q1, .string q2, .string q3, .int .i64 t, .int .i64 u]] w fun e w' => e = .returned (.bool (l.any (holdsB q1 q2 q3 t))) ∧ Below w.heap.size w w' := by
  have HC := Aside0.mk (any_held w.heap.size (fun (h : S52) (_ : Unit) => (holdsB q1 q2 q3 t h, ())) (fun _ W => Blk W w.heap.size 46 #[.string q0, .string q1, .string q2, .string q3, .int .i64 t, .int .i64 u] ∧ Below w.heap.size w W) A l c w hr (fun _ W h => h.2) (by
    intro x hx _ W A4 c4 hi h1 h2
    refine (held1_c x q0 q1 q2 q3 t u w.heap.size A4 c4 W hi.1 (Kd.C_below h1 hi.2) h2).mono ?_
    rintro e w' ⟨rfl, hb⟩
    exact ⟨rfl, hi.1.below hb, below_step hi.2 hb⟩) () (w.alloc (.cells #[.string q0, .string q1, .string q2, .string q3, .int .i64 t, .int .i64 u] 46)) ⟨blk_new _ _, below_alloc (Below.refl _ _) _⟩)
  rw [runAny_pure] at HC
  obtain ⟨b, hb⟩ : ∃ b, l.any (holdsB q1 q2 q3 t) = b := ⟨_, rfl⟩
  rw [hb] at HC ⊢
  clear hr hb
  have hu46 := Try.underlying46
  go_enter Try.func34, Try.ntmps34
  go_wp2_with (go_at_call 75; refine HC.out.mono ?_; rintro e w' ⟨rfl, hv⟩; have HV := Aside0.mk hv.2; clear hv)
  go_ret
  exact ⟨rfl, HV.out⟩
end Go.Proofs.Ytgdpabedlghiaaa.Scope
/- slices.Grow, slices.Concat over holds. -/
namespace Go.Proofs.Ytgdpabedlghiaaa.Scope
set_option linter.unusedVariables false
set_option linter.unusedSimpArgs false
open Go.RowKit Go.Proofs.YtgdpabedlghiaaaW.PrintWords Go.Proofs.YtgdpabedlghiaaaW.PrintLast Go.Proofs.YtgdpabedlghiaaaW.PrintMore Go.Proofs.Ytgdpabedlghiaaa.PZ
/-- A hold's cells, all zero. -/
def zeroH : List Value := [.string ⟨#[]⟩, .int .i64 0, .string ⟨#[]⟩, .int .i64 0, .int .i64 0, .slice none 0 0, .bool false]
set_option maxHeartbeats 2000000 in
set_option maxRecDepth 100000 in
theorem grow_c (m : Nat) (h1 : 1 ≤ m) (h2 : m ≤ 1000) (w : World) :
    Calls Try.prog 118 #[.slice none 0 0, .int .i64 (m : Int)] w fun e w' => ∃ A c, e = .returned (.slice A 0 c) ∧ (Kd.raw 7).R 52 w' w.heap.size (fun _ => True) (.slice A 0 c) [] ∧ Below w.heap.size w w' := by
  have hd0 : decide ((m : Int) < 0) = false := decide_eq_false (by omega)
  have hd1 : 0 < m := by omega
  have hw0 : wrap64 ((m : Int) - 0) = (m : Int) := by rw [Aid.w64 (by omega) (by omega)]; omega
  have hw1 : wrap64 (m : Int) = (m : Int) := Aid.w64 (by omega) (by omega)
  have hu50 := Try.underlying50
  have HM := Aside0.mk (And.intro h1 h2)
  obtain ⟨i0, hi0, _⟩ := info_parts info52
  have hc0 := fun W => cut_to (P := Try.prog) 50 52 .i64 hu50 hi0 none 0 0 0 (by decide) (by decide) (by decide) W
  clear h1 h2
  go_enter Try.func118, Try.ntmps118
  go_wp2_with ((with_reducible refine gate_builtin (b := .append) (xs := #[.tmp 20, .tmp 21]) rfl ?_); go_must (at_builtin); go_must (refine Kd.R_append_zeros (Kd.raw 7) (w0 := w) w.heap.size rfl (.tmp 20) (.tmp 21) 50 3 52 (.agg #[(.string ⟨#[]⟩), (.int .i64 0), (.string ⟨#[]⟩), (.int .i64 0), (.int .i64 0), (.slice none 0 0), (.bool false)]) 88 rfl Try.underlying50 Try.underlying3 info52 rfl (by decide) (by omega) (.slice none 0 0) [] zeroH (kx := .i64) (m : Int) (fun _ => True) rfl (show Value.int .i64 (wrap64 (m : Int)) = .int .i64 (m : Int) by rw [hw1]) ⟨rfl, rfl, by decide⟩ (fun _ _ => trivial) (Kd.R_nil _ _ _ _ _) (by omega) (Below.refl _ _) (Nat.le_refl _) (by have := HM.out; simp; omega) ?_); intro v1 w1 ho hb _ _; have HO := Aside0.mk ho; have HB := Aside0.mk hb; clear ho hb; obtain ⟨A1, c1, he1⟩ := Kd.R_slice HO.out; subst he1)
  go_ret
  refine ⟨_, _, rfl, ?_, HB.out⟩
  have h := Kd.R_take (m := 0) HO.out (Nat.zero_le _)
  rw [List.take_zero] at h
  exact h
theorem hbw_cell {w w' : World} (h : Below w.heap.size w w') {a : Addr} {v : Value} (hc : w.cell? a = some v) : w'.cell? a = some v := (h.cell (World.block_lt_of_cell? _ _ hc)).trans hc
/-- Two rows, one behind the other, in a row of their own. -/
def twoRows (A0 : Option Addr) (n c0 : Nat) (A1 : Option Addr) (k c1 : Nat) : Array Value := #[.slice A0 n c0, .slice A1 k c1]
set_option maxHeartbeats 4000000 in
set_option maxRecDepth 100000 in
theorem concat_c (vs0 vs1 : List (List Value)) (A0 : Option Addr) (c0 : Nat) (A1 : Option Addr) (c1 g : Nat) (w : World) (hg : Blk w g 50 #[.slice A0 vs0.length c0, .slice A1 vs1.length c1]) (h0 : Kd.C (Kd.raw 7) w A0 vs0.length vs0) (h1 : Kd.C (Kd.raw 7) w A1 vs1.length vs1) (hm : 1 ≤ vs0.length + vs1.length) (hm2 : vs0.length + vs1.length ≤ 1000) :
    Calls Try.prog 80 #[.slice (some ⟨g, 0, none⟩) 2 2] w fun e w' => ∃ A c, e = .returned (.slice A (vs0 ++ vs1).length c) ∧ (vs0 ++ vs1).length ≤ c ∧ Kd.C (Kd.raw 7) w' A (vs0 ++ vs1).length (vs0 ++ vs1) ∧ Below w.heap.size w w' := by
  have HG := Aside0.mk hg
  have H0 := Aside0.mk h0
  have H1 := Aside0.mk h1
  have HM := Aside0.mk (And.intro hm hm2)
  have hu50 := Try.underlying50
  have hu130 := Try.underlying130
  obtain ⟨n, hn⟩ : ∃ n, vs0.length = n := ⟨_, rfl⟩
  obtain ⟨k, hk⟩ : ∃ k, vs1.length = k := ⟨_, rfl⟩
  have d0 := hg.cell 0
  have d1 := hg.cell 1
  simp only [List.getElem?_toArray, List.getElem?_cons_zero, List.getElem?_cons_succ] at d0 d1
  rw [hn] at d0
  rw [hk] at d1
  have HN := Aside0.mk (And.intro hn hk)
  rw [hn, hk] at HM
  obtain ⟨m, hm3⟩ : ∃ m, n + k = m := ⟨_, rfl⟩
  have HS := Aside0.mk hm3
  have hwn : wrap64 (n : Int) = (n : Int) := Aid.w64 (by omega) (by omega)
  have hwm : wrap64 ((n : Int) + (k : Int)) = (m : Int) := by rw [Aid.w64 (by omega) (by omega)]; omega
  have hdn : decide ((n : Int) < 0) = false := decide_eq_false (by omega)
  have hdm : decide ((m : Int) < 0) = false := decide_eq_false (by omega)
  have HGR := Aside0.mk (grow_c m (by omega) (by omega))
  clear hg h0 h1 hm hm2 hn hk hm3
  go_enter Try.func80, Try.ntmps80
  go_wp2
  go_loopg [3, 11] 2 (fun gf s3 s11 wx => ∃ i : Nat, s11 = .int .i64 (i : Int) ∧ i + gf = 2 ∧ s3 = .int .i64 ((if i = 0 then 0 else if i = 1 then n else m : Nat) : Int) ∧ wx = w)
  case atStart => exact ⟨0, rfl, rfl, rfl, rfl⟩
  case round =>
    obtain ⟨i, rfl, hi, rfl, rfl⟩ := hrel
    obtain ⟨wa, hwa⟩ : ∃ wa, wa = wr := ⟨_, rfl⟩
    subst hwa
    rcases (show i = 0 ∨ i = 1 ∨ i = 2 by omega) with rfl | rfl | rfl
    · go_wp2
      go_roundg 1
      case measure => omega
      case rel => exact ⟨1, rfl, rfl, by simp; exact hwn, rfl⟩
    · go_wp2
      go_roundg 0
      case measure => omega
      case rel => exact ⟨2, rfl, rfl, by simp; exact hwm, rfl⟩
    · go_wp2_with (go_at_call 118; refine (HGR.out _).mono ?_; rintro e w1 ⟨A6, c6, rfl, ho, hb⟩; have HO1 := Aside0.mk ho; have HB1 := Aside0.mk hb; clear ho hb)
      have HBG := Aside0.mk (show Blk w1 g 50 #[.slice A0 n c0, .slice A1 k c1] by rw [← HN.out.1, ← HN.out.2]; exact HG.out.below HB1.out)
      go_loopg [6, 27] 2 (fun gf s6 s27 wx => ∃ i : Nat, s27 = .int .i64 (i : Int) ∧ i + gf = 2 ∧ (Kd.raw 7).R 52 wx wa.heap.size (fun _ => True) s6 (if i = 0 then [] else if i = 1 then vs0 else vs0 ++ vs1) ∧ Below wa.heap.size wa wx)
      case atStart => exact ⟨0, rfl, rfl, HO1.out, HB1.out⟩
      case round =>
        obtain ⟨i, rfl, hi, ho, hbw⟩ := hrel
        have HO := Aside0.mk ho
        have HBW := Aside0.mk hbw
        clear ho hbw
        have e0 := (hbw_cell HBW.out d0)
        have e1 := (hbw_cell HBW.out d1)
        rcases (show i = 0 ∨ i = 1 ∨ i = 2 by omega) with rfl | rfl | rfl
        · go_wp2_with (((with_reducible refine gate_builtin (b := .append) (xs := #[.tmp 31, .tmp 32]) rfl ?_); at_builtin; refine Kd.R_append_rows (Kd.raw 7) (w0 := wa) wa.heap.size rfl (.tmp 31) (.tmp 32) 50 52 (.agg #[(.string ⟨#[]⟩), (.int .i64 0), (.string ⟨#[]⟩), (.int .i64 0), (.int .i64 0), (.slice none 0 0), (.bool false)]) 88 rfl Try.underlying50 info52 rfl (by decide) (by omega) _ ([]) vs0 _ _ _ (fun _ => True) (fun _ => False) rfl rfl HO.out (by have h_ := Kd.C_below H0.out HBW.out; rw [HN.out.1] at h_; exact h_) (fun _ _ h => h) (fun _ h => h.elim) (fun _ _ => trivial) HBW.out HBW.out.size (by have h1_ := HM.out; have h2_ := HN.out; have h3_ := HS.out; simp; omega) ?_; intro v1 w5 ho hb hg hat; have HO5 := Aside0.mk ho; have HB5 := Aside0.mk hb; clear ho hb hg hat))
          go_roundg 1
          case measure => omega
          case rel => exact ⟨1, rfl, rfl, by simpa using HO5.out, HB5.out⟩
        · go_wp2_with (((with_reducible refine gate_builtin (b := .append) (xs := #[.tmp 31, .tmp 32]) rfl ?_); at_builtin; refine Kd.R_append_rows (Kd.raw 7) (w0 := wa) wa.heap.size rfl (.tmp 31) (.tmp 32) 50 52 (.agg #[(.string ⟨#[]⟩), (.int .i64 0), (.string ⟨#[]⟩), (.int .i64 0), (.int .i64 0), (.slice none 0 0), (.bool false)]) 88 rfl Try.underlying50 info52 rfl (by decide) (by omega) _ (vs0) vs1 _ _ _ (fun _ => True) (fun _ => False) rfl rfl HO.out (by have h_ := Kd.C_below H1.out HBW.out; rw [HN.out.2] at h_; exact h_) (fun _ _ h => h) (fun _ h => h.elim) (fun _ _ => trivial) HBW.out HBW.out.size (by have h1_ := HM.out; have h2_ := HN.out; have h3_ := HS.out; simp; omega) ?_; intro v1 w5 ho hb hg hat; have HO5 := Aside0.mk ho; have HB5 := Aside0.mk hb; clear ho hb hg hat))
          go_roundg 0
          case measure => omega
          case rel => exact ⟨2, rfl, rfl, by simpa using HO5.out, HB5.out⟩
        · have HO2 := Aside0.mk (show (Kd.raw 7).R 52 wr wa.heap.size (fun _ => True) _ (vs0 ++ vs1) by simpa using HO.out)
          obtain ⟨A, c, he, hc, hr⟩ := Kd.R_reads HO2.out
          have HR2 := Aside0.mk (And.intro hc hr)
          clear hc hr
          subst he
          go_wp2
          go_ret
          exact ⟨A, c, rfl, HR2.out.1, HR2.out.2, HBW.out⟩
end Go.Proofs.Ytgdpabedlghiaaa.Scope
/- What an argument reads as, opened kind by kind: out of the form's reading a value of the kind, whose cells it has. -/
namespace Go.Proofs.Ytgdpabedlghiaaa.Open
open Go.Proofs.Ytgdpabedlghiaaa.Base Go.RowKit Go.Proofs.YtgdpabedlghiaaaW.PrintWords Go.Proofs.YtgdpabedlghiaaaW.PrintLast Go.Proofs.YtgdpabedlghiaaaW.PrintMore

/-- With so much fuel, what type t reads as is a value of kind d. -/
def OpensN (P : Program) (n : Nat) (t : TypeId) {α : Type} (d : Kd α) (ok : α → Prop) : Prop :=
  ∀ (H : Type) (enc : TypeId × Value → H) (w : World) (base : Nat) (held : Bool) (cs : List Value) (x : DataW H × List MemPlace), DataW.trod enc P w base (fun _ => true) held n t cs = some x → ∃ v, d.K w v cs ∧ ok v
def Opens (P : Program) (t : TypeId) {α : Type} (d : Kd α) (ok : α → Prop) : Prop := ∀ n, OpensN P n t d ok

theorem opens_int {P : Program} {t : TypeId} {k : IntKind} (ht : P.underlying t = some (.int k)) : Opens P t (Kd.int k) (fun v => (Lit.int k v).wf = true) := by
  intro n H enc w base held cs x h
  obtain ⟨v, rfl, hw, _⟩ : ∃ v, cs = [.int k v] ∧ (Lit.int k v).wf = true ∧ True := by
    cases n with
    | zero => simp [DataW.trod] at h
    | succ n =>
      unfold DataW.trod at h
      rw [ht] at h
      split at h <;> simp_all
  exact ⟨v, rfl, hw⟩
theorem opens_bool {P : Program} {t : TypeId} (ht : P.underlying t = some .bool) : Opens P t Kd.bool (fun _ => True) := by
  intro n H enc w base held cs x h
  obtain ⟨v, rfl⟩ : ∃ v, cs = [.bool v] := by
    cases n with
    | zero => simp [DataW.trod] at h
    | succ n =>
      unfold DataW.trod at h
      rw [ht] at h
      split at h <;> simp_all
  exact ⟨v, rfl, trivial⟩
theorem opens_string {P : Program} {t : TypeId} (ht : P.underlying t = some .string) : Opens P t Kd.string (fun s => s.size ≤ maxLen) := by
  intro n H enc w base held cs x h
  obtain ⟨v, rfl, hv⟩ : ∃ v, cs = [.string v] ∧ v.size ≤ maxLen := by
    cases n with
    | zero => simp [DataW.trod] at h
    | succ n =>
      unfold DataW.trod at h
      rw [ht] at h
      split at h <;> simp_all
  exact ⟨v, rfl, hv⟩
theorem choose_list {α : Type} {p : Nat → α → Prop} : ∀ n, (∀ i, i < n → ∃ v, p i v) → ∃ xs : List α, xs.length = n ∧ ∀ i v, xs[i]? = some v → p i v := by
  intro n
  induction n with
  | zero => intro _; exact ⟨[], rfl, fun i v h => by simp at h⟩
  | succ n ih =>
    intro h
    obtain ⟨xs, hl, hx⟩ := ih (fun i hi => h i (by omega))
    obtain ⟨v, hv⟩ := h n (by omega)
    refine ⟨xs ++ [v], by simp [hl], fun i u hu => ?_⟩
    rcases Nat.lt_or_ge i xs.length with hi | hi
    · rw [List.getElem?_append_left hi] at hu; exact hx i u hu
    · have hi' : i = n := by
        have := (List.getElem?_eq_some_iff.1 hu).1
        rw [List.length_append, List.length_singleton] at this
        omega
      subst hi'
      have : v = u := by rw [← hl] at hu; simpa using hu
      subst this
      exact hv
theorem opensN_slice {P : Program} {n : Nat} {t e : TypeId} {α : Type} {d : Kd α} {ok : α → Prop} (ht : P.underlying t = some (.slice e)) (hc : P.cellsOf e = d.sz) (hd : OpensN P n e d ok) : OpensN P (n + 1) t (Kd.slice e d) (fun xs => ∀ x ∈ xs, ok x) := by
  intro H enc w base held cs x h
  rcases DataW.trod_slice ht h with ⟨rfl, _⟩ | ⟨a, len, cap, elems, rest, m, hm, rfl, _, hb, hl, hmx, hel, hi, _⟩
  · exact ⟨[], ⟨none, 0, rfl, by simp, Kd.C_nil _ _⟩, fun x hx => by cases hx⟩
  · have hmn : m = n := by omega
    subst hmn
    obtain ⟨xs, hxl, hxs⟩ := choose_list (α := α) (p := fun i v => ok v ∧ ∃ c, c.length = d.sz ∧ d.K w v c ∧ ∀ j u, c[j]? = some u → w.cell? (a.add (i * d.sz + j)) = some u) len (fun i hil => by
      have h1 := hi i hil
      rw [List.getElem?_eq_getElem (by omega)] at h1
      obtain ⟨cs', h2, h3⟩ := Option.bind_eq_some_iff.1 h1
      obtain ⟨v, hv, hok⟩ := hd _ _ _ _ _ _ _ h3
      obtain ⟨_, h4, h5⟩ := World.cells?_some h2
      refine ⟨v, hok, cs', by rw [h4, hc], hv, fun j u hu => ?_⟩
      have hj : j < cs'.length := (List.getElem?_eq_some_iff.1 hu).1
      have h6 := h5 j (by omega)
      rw [hu, hc] at h6
      rw [← h6, Addr.add_add])
    refine ⟨xs, ⟨some a, cap, by rw [hxl], by omega, ?_⟩, fun x hx => ?_⟩
    · refine ⟨rfl, ?_, fun _ => ⟨a, rfl, fun j p hj => ?_⟩⟩
      · rw [hxl]; simp only [maxLen] at hmx; omega
      · exact (hxs j p hj).2
    · obtain ⟨i, hi, rfl⟩ := List.mem_iff_getElem.1 hx
      exact (hxs i _ (List.getElem?_eq_getElem hi)).1
theorem opens_slice {P : Program} {t e : TypeId} {α : Type} {d : Kd α} {ok : α → Prop} (ht : P.underlying t = some (.slice e)) (hc : P.cellsOf e = d.sz) (hd : Opens P e d ok) : Opens P t (Kd.slice e d) (fun xs => ∀ x ∈ xs, ok x) := by
  intro n
  cases n with
  | zero => intro H enc w base held cs x h; simp [DataW.trod] at h
  | succ n => exact opensN_slice ht hc (hd n)
/-- The fields of a struct from offset o on. -/
def OpensF (P : Program) (n : Nat) (fs : List Field) (o : Nat) {α : Type} (d : Kd α) (ok : α → Prop) : Prop :=
  ∀ (H : Type) (enc : TypeId × Value → H) (w : World) (base : Nat) (held : Bool) (cs : List Value) (xs : List (DataW H × List MemPlace)),
    cs.length = o + d.sz → fs.mapM (fun f => DataW.trod enc P w base (fun _ => true) held n f.type ((cs.drop f.offset).take (P.cellsOf f.type))) = some xs → ∃ v, d.K w v (cs.drop o) ∧ ok v
theorem opensF_one {P : Program} {n : Nat} {f : Field} {o : Nat} {α : Type} {d : Kd α} {ok : α → Prop} (ho : f.offset = o) (hc : P.cellsOf f.type = d.sz) (hd : OpensN P n f.type d ok) : OpensF P n [f] o d ok := by
  intro H enc w base held cs xs hl h
  have h1 := mapM_some_get h 0 f rfl
  cases hx : xs[0]? with
  | none => rw [List.getElem?_eq_none_iff] at hx; have := mapM_some_length h; simp at this; omega
  | some y =>
    rw [hx, ho, List.take_of_length_le (by rw [List.length_drop]; omega)] at h1
    exact hd _ _ _ _ _ _ _ h1
theorem opensF_cons {P : Program} {n : Nat} {f : Field} {fs : List Field} {o : Nat} {α β : Type} {d : Kd α} {d2 : Kd β} {ok : α → Prop} {ok2 : β → Prop} (ho : f.offset = o) (hc : P.cellsOf f.type = d.sz) (hd : OpensN P n f.type d ok) (hr : OpensF P n fs (o + d.sz) d2 ok2) : OpensF P n (f :: fs) o (Kd.pair d d2) (fun v => ok v.1 ∧ ok2 v.2) := by
  intro H enc w base held cs xs hl h
  rw [List.mapM_cons] at h
  obtain ⟨y, h1, h2⟩ := Option.bind_eq_some_iff.1 h
  obtain ⟨ys, h3, h4⟩ := Option.bind_eq_some_iff.1 h2
  have hsz : (Kd.pair d d2).sz = d.sz + d2.sz := rfl
  rw [ho, hc] at h1
  obtain ⟨v1, k1, o1⟩ := hd _ _ _ _ _ _ _ h1
  obtain ⟨v2, k2, o2⟩ := hr _ _ _ _ _ _ _ (by rw [hl, hsz]; omega) h3
  refine ⟨(v1, v2), ⟨(cs.drop o).take d.sz, cs.drop (o + d.sz), ?_, k1, k2⟩, o1, o2⟩
  rw [← List.drop_drop, List.take_append_drop]
theorem opensN_struct {P : Program} {n : Nat} {t : TypeId} {fs : Array Field} {α : Type} {d : Kd α} {ok : α → Prop} (ht : P.underlying t = some (.struct fs)) (hc : P.cellsOf t = d.sz) (hd : OpensF P n fs.toList 0 d ok) : OpensN P (n + 1) t d ok := by
  intro H enc w base held cs x h
  unfold DataW.trod at h
  rw [ht] at h
  have h' : (if cs.length = P.cellsOf t then (fs.toList.mapM fun f => DataW.trod enc P w base (fun _ => true) held n f.type ((cs.drop f.offset).take (P.cellsOf f.type))).map fun xs => (DataW.agg (xs.map (·.1)), xs.flatMap (·.2)) else none) = some x := by
    revert h
    split <;> simp_all
  split at h'
  · next hl =>
    obtain ⟨xs, h1, _⟩ := Option.map_eq_some_iff.1 h'
    have := hd _ _ _ _ _ _ _ (by rw [hl, hc]; omega) h1
    simpa using this
  · cases h'
theorem opens_struct {P : Program} {t : TypeId} {fs : Array Field} {α : Type} {d : Kd α} {ok : α → Prop} (ht : P.underlying t = some (.struct fs)) (hc : P.cellsOf t = d.sz) (hd : ∀ n, OpensF P n fs.toList 0 d ok) : Opens P t d ok := by
  intro n
  cases n with
  | zero => intro H enc w base held cs x h; simp [DataW.trod] at h
  | succ n => exact opensN_struct ht hc (hd n)
theorem opensN_iso {P : Program} {n : Nat} {t : TypeId} {α β : Type} {d : Kd α} {ok : α → Prop} (f : β → α) (g : α → β) (hg : ∀ a, f (g a) = a) (hd : OpensN P n t d ok) : OpensN P n t (Kd.iso d f) (fun b => ok (f b)) := by
  intro H enc w base held cs x h
  obtain ⟨v, hk, ho⟩ := hd _ _ _ _ _ _ _ h
  exact ⟨g v, by show d.K w (f (g v)) cs; rw [hg]; exact hk, by show ok (f (g v)); rw [hg]; exact ho⟩
theorem opens_iso {P : Program} {t : TypeId} {α β : Type} {d : Kd α} {ok : α → Prop} (f : β → α) (g : α → β) (hg : ∀ a, f (g a) = a) (hd : Opens P t d ok) : Opens P t (Kd.iso d f) (fun b => ok (f b)) := fun n => opensN_iso f g hg (hd n)
theorem opens_ok {P : Program} {t : TypeId} {α : Type} {d : Kd α} {ok ok' : α → Prop} (hd : Opens P t d ok) (h : ∀ v, ok v → ok' v) : Opens P t d ok' := by
  intro n H enc w base held cs x hx
  obtain ⟨v, hk, ho⟩ := hd n _ _ _ _ _ _ _ hx
  exact ⟨v, hk, h v ho⟩
/-- An argument, opened. -/
theorem Opens.arg {P : Program} {t : TypeId} {α : Type} {d : Kd α} {ok : α → Prop} (h : Opens P t d ok) {H : Type} {enc : TypeId × Value → H} {w : World} {base : Nat} {held : Bool} {v : Value} {D : DataW H} {ps : List MemPlace} (ht : DataW.Trod enc P w base (fun _ => true) held t v D ps) : ∃ x, d.K w x v.cells.toList ∧ ok x := by
  obtain ⟨n, hn⟩ := ht
  exact h n _ _ _ _ _ _ _ hn
end Go.Proofs.Ytgdpabedlghiaaa.Open
-- printed for this claim by a program (pall.sh)
namespace Go.Proofs.Ytgdpabedlghiaaa.PZ
open Go.RowKit Go.Proofs.YtgdpabedlghiaaaW.PrintWords Go.Proofs.YtgdpabedlghiaaaW.PrintLast Go.Proofs.YtgdpabedlghiaaaW.PrintMore
attribute [local go_sem] max2_int min2_int max_two min_two max_three min_three max_four min_four   -- for this text's walks alone
set_option linter.unusedVariables false
set_option linter.unusedSimpArgs false

/-! ### hold_right: function 78 -/
def hold_right.f (a0 : ByteArray) (a1_0 : Int) (a1_1 : ByteArray) (a1_2 : Int) (a1_3 : Int) (l1_4 : List (S40)) : Option (Int) := (inode_Name.f a0).bind fun t364 => (if t364 = true then ((scope_Check.f a1_0 a1_1 a1_2 a1_3 l1_4).bind fun t365 => (some t365)) else (some 1))
set_option maxHeartbeats 8000000 in
set_option maxRecDepth 100000 in
theorem hold_right.calls (a0 : ByteArray) (a1_0 : Int) (a1_1 : ByteArray) (a1_2 : Int) (a1_3 : Int) (A1_4 : Option Addr) (c1_4 : Nat) (l1_4 : List (S40)) (r : Int) (w : World) (hr1_4 : Kd.C k40 w A1_4 l1_4.length l1_4) (hc1_4 : l1_4.length ≤ c1_4) (h : hold_right.f a0 a1_0 a1_1 a1_2 a1_3 l1_4 = some r) :
    Calls Try.prog 78 #[.string a0, .agg #[.int .i64 a1_0, .string a1_1, .int .i64 a1_2, .int .i64 a1_3, .slice A1_4 l1_4.length c1_4]] w fun e w' => e = .returned (.int .i64 r) ∧ Below w.heap.size w w' := by
  have hu40 := Try.underlying40
  have HR1_4 := Aside0.mk hr1_4
  have HC1_4 := Aside0.mk hc1_4
  clear hr1_4 hc1_4
  have HB := Aside0.mk (Below.refl w.heap.size w)
  have H : ((inode_Name.f a0).bind fun t364 => (if t364 = true then ((scope_Check.f a1_0 a1_1 a1_2 a1_3 l1_4).bind fun t365 => (some t365)) else (some 1))) = some r := h
  clear h
  replace H := Option.bind_eq_some_iff.mp H
  obtain ⟨t364, A30, H⟩ := H
  replace H : (if t364 = true then ((scope_Check.f a1_0 a1_1 a1_2 a1_3 l1_4).bind fun t365 => (some t365)) else (some 1)) = some r := H
  have A3 := Aside0.mk A30
  clear A30
  by_cases c4 : t364 = true
  · subst c4
    have H1 : ((scope_Check.f a1_0 a1_1 a1_2 a1_3 l1_4).bind fun t365 => (some t365)) = some r := by rw [if_pos rfl] at H; exact H
    clear H
    have H := H1
    clear H1
    replace H := Option.bind_eq_some_iff.mp H
    obtain ⟨t365, A50, H⟩ := H
    replace H : (some t365) = some r := H
    have A5 := Aside0.mk A50
    clear A50
    obtain rfl := Option.some.inj H
    go_enter Try.func78, Try.ntmps78
    go_wp2_with (first | ((with_reducible refine gate_dst (N := 3) rfl ?_); refine box_event ?hg (N := 3) ?hd (cs := #[.int .i64 a1_0, .string a1_1, .int .i64 a1_2, .int .i64 a1_3, .slice A1_4 l1_4.length c1_4]) (t := 40) ?hr ?_; (case hd => rfl); (case hg => rfl); (case hr => first | (go_simp; done) | (go_simp; rfl)); intro gb363 hg w6 hbox hb; have n0_ := Aside0.mk (below_step (by repeat (first | (with_reducible first | exact HB.out | apply below_alloc | apply pw_below_drewN | apply below_drew1) | exact HB.out)) hb); have n1_ := Aside0.mk (hbox); have n2_ := Aside0.mk ((by rw [hg]; exact (below_size (by repeat (first | (with_reducible first | exact HB.out | apply below_alloc | apply pw_below_drewN | apply below_drew1) | exact HB.out))) : w.heap.size ≤ gb363)); have n3_ := Aside0.mk ((by rw [hg]; exact (below_size (by repeat (first | (with_reducible first | exact HB.out | apply below_alloc | apply pw_below_drewN | apply below_drew1) | exact HB.out))) : w.heap.size ≤ gb363)); clear HB; have HB := n0_; have BK363 := n1_; have GW363 := n2_; have GE363 := n3_; clear n0_ n1_ n2_ n3_; clear hb hbox hg) | ((with_reducible refine gate_callee (f := 21) rfl ?_); refine goesL_ (some 6) rfl rfl Try.func21 (by kernel_rfl) rfl #[.string a0] rfl (by (try simp only [List.map_toArray, List.map_cons, List.map_nil]); first | done | rfl | (simp only [List.length_drop, List.length_take]; rfl)) ?_; (with_reducible refine (inode_Name.calls a0 true _ A3.out).mono ?_); rintro e w7 ⟨rfl, hb⟩; refine ⟨_, rfl, ?_⟩; have n0_ := Aside0.mk (blk_below (g := gb363) (o := .cells #[.int .i64 a1_0, .string a1_1, .int .i64 a1_2, .int .i64 a1_3, .slice A1_4 l1_4.length c1_4] 40 (0, 0)) (by (with_reducible repeat (first | refine blk_drewN ?_ _ | refine blk_drew ?_ | refine blk_alloc ?_ _)); exact BK363.out) hb); have n1_ := Aside0.mk (below_step (by repeat (first | (with_reducible first | exact HB.out | apply below_alloc | apply pw_below_drewN | apply below_drew1 | refine below_set ?_ GE363.out) | exact HB.out)) hb); clear BK363; clear HB; have BK363 := n0_; have HB := n1_; clear n0_ n1_; (try clear hb); (try clear hb2); (try clear hk); (try clear hi); have hcz8_0 : w7.cell? ⟨gb363, 0, none⟩ = some (.int .i64 a1_0) := (blk_cell BK363.out 0).trans rfl; have hcz8_1 : w7.cell? ⟨gb363, 1, none⟩ = some (.string a1_1) := (blk_cell BK363.out 1).trans rfl; have hcz8_2 : w7.cell? ⟨gb363, 2, none⟩ = some (.int .i64 a1_2) := (blk_cell BK363.out 2).trans rfl; have hcz8_3 : w7.cell? ⟨gb363, 3, none⟩ = some (.int .i64 a1_3) := (blk_cell BK363.out 3).trans rfl; have hcz8_4 : w7.cell? ⟨gb363, 4, none⟩ = some (.slice A1_4 l1_4.length c1_4) := (blk_cell BK363.out 4).trans rfl; have hfz8_0 := blk_frozen BK363.out 0; have hfz8_1 := blk_frozen BK363.out 1; have hfz8_2 := blk_frozen BK363.out 2; have hfz8_3 := blk_frozen BK363.out 3; have hfz8_4 := blk_frozen BK363.out 4) | ((with_reducible refine gate_callee (f := 28) rfl ?_); refine goesL_ (some 9) rfl rfl Try.func28 (by kernel_rfl) rfl #[.agg #[.int .i64 a1_0, .string a1_1, .int .i64 a1_2, .int .i64 a1_3, .slice A1_4 l1_4.length c1_4]] rfl (by (try simp only [List.map_toArray, List.map_cons, List.map_nil]); first | done | rfl | (simp only [List.length_drop, List.length_take]; rfl)) ?_; (with_reducible refine (scope_Check.calls a1_0 a1_1 a1_2 a1_3 _ _ l1_4 t365 _ ?side1 ?side2 A5.out).mono ?_); (case side1 => repeat (first | exact (Kd.C_below HR1_4.out HB.out) | (with_reducible refine Kd.C_alloc ?_ _) | (with_reducible refine Kd.C_drewN ?_ _) | (with_reducible refine Kd.C_drew ?_))); (case side2 => exact HC1_4.out); rintro e w9 ⟨rfl, hb⟩; refine ⟨_, rfl, ?_⟩; have n0_ := Aside0.mk (blk_below (g := gb363) (o := .cells #[.int .i64 a1_0, .string a1_1, .int .i64 a1_2, .int .i64 a1_3, .slice A1_4 l1_4.length c1_4] 40 (0, 0)) (by (with_reducible repeat (first | refine blk_drewN ?_ _ | refine blk_drew ?_ | refine blk_alloc ?_ _)); exact BK363.out) hb); have n1_ := Aside0.mk (below_step (by repeat (first | (with_reducible first | exact HB.out | apply below_alloc | apply pw_below_drewN | apply below_drew1 | refine below_set ?_ GE363.out) | exact HB.out)) hb); clear BK363; clear HB; have BK363 := n0_; have HB := n1_; clear n0_ n1_; (try clear hb); (try clear hb2); (try clear hk); (try clear hi)))
    go_ret
    exact ⟨by first | rfl | (simp [errW_none, errW_some] <;> rfl) | (simp [*, errW_none, errW_some] <;> rfl), by repeat (first | (with_reducible first | exact HB.out | apply below_alloc | apply pw_below_drewN | apply below_drew1 | refine below_set ?_ GE363.out) | exact HB.out)⟩
  · replace c4 := Bool.eq_false_iff.mpr c4
    subst c4
    have H1 : (some 1) = some r := by rw [if_neg (show ¬ (false = true) by decide)] at H; exact H
    clear H
    have H := H1
    clear H1
    obtain rfl := Option.some.inj H
    go_enter Try.func78, Try.ntmps78
    go_wp2_with (first | ((with_reducible refine gate_dst (N := 3) rfl ?_); refine box_event ?hg (N := 3) ?hd (cs := #[.int .i64 a1_0, .string a1_1, .int .i64 a1_2, .int .i64 a1_3, .slice A1_4 l1_4.length c1_4]) (t := 40) ?hr ?_; (case hd => rfl); (case hg => rfl); (case hr => first | (go_simp; done) | (go_simp; rfl)); intro gb363 hg w10 hbox hb; have n0_ := Aside0.mk (below_step (by repeat (first | (with_reducible first | exact HB.out | apply below_alloc | apply pw_below_drewN | apply below_drew1) | exact HB.out)) hb); have n1_ := Aside0.mk (hbox); have n2_ := Aside0.mk ((by rw [hg]; exact (below_size (by repeat (first | (with_reducible first | exact HB.out | apply below_alloc | apply pw_below_drewN | apply below_drew1) | exact HB.out))) : w.heap.size ≤ gb363)); have n3_ := Aside0.mk ((by rw [hg]; exact (below_size (by repeat (first | (with_reducible first | exact HB.out | apply below_alloc | apply pw_below_drewN | apply below_drew1) | exact HB.out))) : w.heap.size ≤ gb363)); clear HB; have HB := n0_; have BK363 := n1_; have GW363 := n2_; have GE363 := n3_; clear n0_ n1_ n2_ n3_; clear hb hbox hg) | ((with_reducible refine gate_callee (f := 21) rfl ?_); refine goesL_ (some 6) rfl rfl Try.func21 (by kernel_rfl) rfl #[.string a0] rfl (by (try simp only [List.map_toArray, List.map_cons, List.map_nil]); first | done | rfl | (simp only [List.length_drop, List.length_take]; rfl)) ?_; (with_reducible refine (inode_Name.calls a0 false _ A3.out).mono ?_); rintro e w11 ⟨rfl, hb⟩; refine ⟨_, rfl, ?_⟩; have n0_ := Aside0.mk (blk_below (g := gb363) (o := .cells #[.int .i64 a1_0, .string a1_1, .int .i64 a1_2, .int .i64 a1_3, .slice A1_4 l1_4.length c1_4] 40 (0, 0)) (by (with_reducible repeat (first | refine blk_drewN ?_ _ | refine blk_drew ?_ | refine blk_alloc ?_ _)); exact BK363.out) hb); have n1_ := Aside0.mk (below_step (by repeat (first | (with_reducible first | exact HB.out | apply below_alloc | apply pw_below_drewN | apply below_drew1 | refine below_set ?_ GE363.out) | exact HB.out)) hb); clear BK363; clear HB; have BK363 := n0_; have HB := n1_; clear n0_ n1_; (try clear hb); (try clear hb2); (try clear hk); (try clear hi)))
    go_ret
    exact ⟨by first | rfl | (simp [errW_none, errW_some] <;> rfl) | (simp [*, errW_none, errW_some] <;> rfl), by repeat (first | (with_reducible first | exact HB.out | apply below_alloc | apply pw_below_drewN | apply below_drew1 | refine below_set ?_ GE363.out) | exact HB.out)⟩

end Go.Proofs.Ytgdpabedlghiaaa.PZ
/- hold.Place walked. -/
namespace Go.Proofs.Ytgdpabedlghiaaa.Scope
set_option linter.unusedVariables false
set_option linter.unusedSimpArgs false
open Go.RowKit Go.Proofs.YtgdpabedlghiaaaW.PrintWords Go.Proofs.YtgdpabedlghiaaaW.PrintLast Go.Proofs.YtgdpabedlghiaaaW.PrintMore Go.Proofs.Ytgdpabedlghiaaa.PZ
/-- The cells of each element of a row. -/
def Rows {α : Type} (d : Kd α) (w : World) (l : List α) (vs : List (List Value)) : Prop := vs.length = l.length ∧ ∀ (j : Nat) (x : α), l[j]? = some x → ∃ c, vs[j]? = some c ∧ d.K w x c
theorem Rows.below {α : Type} {d : Kd α} {w w' : World} {l : List α} {vs : List (List Value)} (h : Rows d w l vs) (hb : Below w.heap.size w w') : Rows d w' l vs :=
  ⟨h.1, fun j x hj => by obtain ⟨c, h1, h2⟩ := h.2 j x hj; exact ⟨c, h1, d.K_below hb h2⟩⟩
theorem Rows.append {α : Type} {d : Kd α} {w : World} {l m : List α} {vs us : List (List Value)} (h : Rows d w l vs) (k : Rows d w m us) : Rows d w (l ++ m) (vs ++ us) := by
  refine ⟨by rw [List.length_append, List.length_append, h.1, k.1], fun j x hj => ?_⟩
  rcases Nat.lt_or_ge j l.length with hlt | hge
  · rw [List.getElem?_append_left hlt] at hj
    obtain ⟨c, h1, h2⟩ := h.2 j x hj
    exact ⟨c, by rw [List.getElem?_append_left (by rw [h.1]; exact hlt)]; exact h1, h2⟩
  · rw [List.getElem?_append_right hge] at hj
    obtain ⟨c, h1, h2⟩ := k.2 _ x hj
    exact ⟨c, by rw [List.getElem?_append_right (by rw [h.1]; exact hge), h.1]; exact h1, h2⟩
theorem raw_of {α : Type} {d : Kd α} {w : World} {A : Option Addr} {l : List α} (h : d.C w A l.length l) : ∃ vs, Rows d w l vs ∧ (Kd.raw d.sz).C w A vs.length vs := by
  rcases Nat.eq_zero_or_pos l.length with h0 | h0
  · obtain rfl := List.eq_nil_of_length_eq_zero h0
    exact ⟨[], ⟨rfl, fun j x hj => by simp at hj⟩, rfl, by simp, fun hp => by simp at hp⟩
  · obtain ⟨ad, rfl, hc⟩ := h.2.2 h0
    obtain ⟨vs, hl, hv⟩ := Open.choose_list (α := List Value) (p := fun j c => ∃ x, l[j]? = some x ∧ c.length = d.sz ∧ d.K w x c ∧ ∀ i u, c[i]? = some u → w.cell? (ad.add (j * d.sz + i)) = some u) l.length (fun i hi => by
      obtain ⟨c, h1, h2, h3⟩ := hc i _ (List.getElem?_eq_getElem hi)
      exact ⟨c, _, List.getElem?_eq_getElem hi, h1, h2, h3⟩)
    refine ⟨vs, ⟨hl, fun j x hj => ?_⟩, rfl, by rw [hl]; exact h.2.1, fun _ => ⟨ad, rfl, fun j p hj => ?_⟩⟩
    · have hlt : j < vs.length := by rw [hl]; exact (List.getElem?_eq_some_iff.1 hj).1
      obtain ⟨x', h1, h2, h3, _⟩ := hv j _ (List.getElem?_eq_getElem hlt)
      rw [hj] at h1
      obtain rfl := Option.some.inj h1
      exact ⟨_, List.getElem?_eq_getElem hlt, h3⟩
    · obtain ⟨x, _, h2, h3, h4⟩ := hv j p hj
      exact ⟨p, h2, ⟨rfl, h2, d.K_one h3⟩, h4⟩
theorem of_raw {α : Type} {d : Kd α} {w : World} {A : Option Addr} {l : List α} {vs : List (List Value)} (hr : Rows d w l vs) (h : (Kd.raw d.sz).C w A vs.length vs) : d.C w A l.length l := by
  refine ⟨rfl, by rw [← hr.1]; exact h.2.1, fun hp => ?_⟩
  obtain ⟨ad, rfl, hc⟩ := h.2.2 (by rw [hr.1]; exact hp)
  refine ⟨ad, rfl, fun j p hj => ?_⟩
  obtain ⟨c, h1, h2⟩ := hr.2 j p hj
  obtain ⟨c', h3, ⟨rfl, _, _⟩, h5⟩ := hc j c h1
  exact ⟨c', h3, h2, h5⟩
/-- The cells of one hold, in a block of their own. -/
theorem one_hold {w : World} {g : Nat} {cs : List Value} (hl : cs.length = 7) (h1 : ∀ u ∈ cs, u.oneCell' = true) (h : Blk w g 52 cs.toArray) : (Kd.raw 7).C w (some ⟨g, 0, none⟩) 1 [cs] := by
  refine ⟨rfl, by decide, fun _ => ⟨_, rfl, fun j p hj => ?_⟩⟩
  have h0 : j = 0 := by have := (List.getElem?_eq_some_iff.1 hj).1; simp at this; omega
  subst h0
  have hp : cs = p := by simpa using hj
  subst hp
  refine ⟨cs, hl, ⟨rfl, hl, h1⟩, fun i v hv => ?_⟩
  have e : (⟨g, 0, none⟩ : Addr).add (0 * (Kd.raw 7).sz + i) = ⟨g, i, none⟩ := by unfold Addr.add; by_cases hi : i = 0 <;> simp [hi]
  rw [e, h.cell i]
  simpa using hv
theorem one_row {w : World} (h : S52) {B : Option Addr} {d : Nat} (hd : h.f1.f4.length ≤ d) (hx : Kd.C k40 w B h.f1.f4.length h.f1.f4) : Rows k52 w [h] [[.string h.f0, .int .i64 h.f1.f0, .string h.f1.f1, .int .i64 h.f1.f2, .int .i64 h.f1.f3, .slice B h.f1.f4.length d, .bool h.f2]] := by
  refine ⟨rfl, fun j x hj => ?_⟩
  have h0 : j = 0 := by have := (List.getElem?_eq_some_iff.1 hj).1; simp at this; omega
  subst h0
  have hp : h = x := by simpa using hj
  subst hp
  exact ⟨_, rfl, k52_mk w h hd hx⟩
/-- What Place answers. -/
def placeB (l : List S52) (id : ByteArray) (x : S40) : List S52 × Int :=
  if Name.nameB id = false then ([], 1) else if mayB x = false then ([], 1) else if findB l id ≥ 0 then ([], 6) else if (l.length : Int) ≥ 12 then ([], 4) else (l ++ [⟨id, x, true⟩], 0)
theorem right_v (id : ByteArray) (x : S40) : hold_right.f id x.f0 x.f1 x.f2 x.f3 x.f4 = some (if Name.nameB id = false then 1 else if mayB x = false then 1 else 0) := by
  obtain ⟨op, nm, fr, to_, kids⟩ := x
  unfold hold_right.f inode_Name.f scope_Check.f
  cases Name.nameB id <;> cases mayB ⟨op, nm, fr, to_, kids⟩ <;> rfl
set_option maxHeartbeats 4000000 in
set_option maxRecDepth 100000 in
theorem place_c (l : List S52) (id : ByteArray) (x : S40) (A : Option Addr) (c : Nat) (B : Option Addr) (d : Nat) (w : World) (hr : Kd.C k52 w A l.length l) (hc : l.length ≤ c) (hx : Kd.C k40 w B x.f4.length x.f4) (hd : x.f4.length ≤ d) :
    Calls Try.prog 35 #[.slice A l.length c, .string id, .agg #[.int .i64 x.f0, .string x.f1, .int .i64 x.f2, .int .i64 x.f3, .slice B x.f4.length d]] w fun e w' => ∃ D m, e = .returned (.tuple #[.slice D (placeB l id x).1.length m, .int .i64 (placeB l id x).2]) ∧ (placeB l id x).1.length ≤ m ∧ Kd.C k52 w' D (placeB l id x).1.length (placeB l id x).1 ∧ Below w.heap.size w w' := by
  have HB := Aside0.mk (below_alloc (Below.refl w.heap.size w) (.cells #[.int .i64 x.f0, .string x.f1, .int .i64 x.f2, .int .i64 x.f3, .slice B x.f4.length d] 40))
  have HG := Aside0.mk (show Blk (w.alloc (.cells #[.int .i64 x.f0, .string x.f1, .int .i64 x.f2, .int .i64 x.f3, .slice B x.f4.length d] 40)) w.heap.size 40 #[.int .i64 x.f0, .string x.f1, .int .i64 x.f2, .int .i64 x.f3, .slice B x.f4.length d] from blk_new _ _)
  have HR := Aside0.mk hr
  have HX := Aside0.mk hx
  have HD := Aside0.mk hd
  have HC := Aside0.mk hc
  have HRT := Aside0.mk (fun W (h : Kd.C k40 W B x.f4.length x.f4) => hold_right.calls id x.f0 x.f1 x.f2 x.f3 B d x.f4 _ W h hd (right_v id x))
  have HF := Aside0.mk (fun W (h : Kd.C k52 W A l.length l) => find_c l id A c W h)
  have hu40 := Try.underlying40
  have hu50 := Try.underlying50
  unfold placeB
  clear hr hc hx hd
  cases hn : Name.nameB id with
  | false =>
    rw [hn, if_pos rfl] at HRT
    rw [if_pos rfl]
    clear hn
    go_enter Try.func35, Try.ntmps35
    go_wp2_with (go_at_call 78; refine (HRT.out _ (Kd.C_below HX.out HB.out)).mono ?_; rintro e w1 ⟨rfl, hb⟩; have HB1 := Aside0.mk (below_step HB.out hb); clear hb)
    go_ret2
    exact ⟨none, 0, rfl, Nat.le_refl _, Kd.C_nil _ _, HB1.out⟩
  | true =>
    rw [hn, if_neg (by decide)] at HRT
    rw [if_neg (by decide)]
    clear hn
    cases hm : mayB x with
    | false =>
      rw [hm, if_pos rfl] at HRT
      rw [if_pos rfl]
      clear hm
      go_enter Try.func35, Try.ntmps35
      go_wp2_with (go_at_call 78; refine (HRT.out _ (Kd.C_below HX.out HB.out)).mono ?_; rintro e w1 ⟨rfl, hb⟩; have HB1 := Aside0.mk (below_step HB.out hb); clear hb)
      go_ret2
      exact ⟨none, 0, rfl, Nat.le_refl _, Kd.C_nil _ _, HB1.out⟩
    | true =>
      rw [hm, if_neg (by decide)] at HRT
      rw [if_neg (by decide)]
      clear hm
      obtain ⟨f, hf⟩ : ∃ f, findB l id = f := ⟨_, rfl⟩
      rw [hf] at HF ⊢
      clear hf
      by_cases c1 : f ≥ 0
      · have z1 : decide (0 ≤ f) = true := decide_eq_true c1
        rw [if_pos c1]
        clear c1
        go_enter Try.func35, Try.ntmps35
        go_wp2_with (first
          | (go_at_call 78; refine (HRT.out _ (Kd.C_below HX.out HB.out)).mono ?_; rintro e w1 ⟨rfl, hb⟩; have HB1 := Aside0.mk (below_step HB.out hb); clear hb)
          | (go_at_call 79; refine (HF.out _ (Kd.C_below HR.out HB1.out)).mono ?_; rintro e w2 ⟨rfl, hb⟩; have HB2 := Aside0.mk (below_step HB1.out hb); clear hb))
        go_ret2
        exact ⟨none, 0, rfl, Nat.le_refl _, Kd.C_nil _ _, HB2.out⟩
      · have z1 : decide (0 ≤ f) = false := decide_eq_false c1
        rw [if_neg c1]
        clear c1
        by_cases c2 : (l.length : Int) ≥ 12
        · have z2 : 12 ≤ l.length := by omega
          rw [if_pos c2]
          clear c2
          go_enter Try.func35, Try.ntmps35
          go_wp2_with (first
            | (go_at_call 78; refine (HRT.out _ (Kd.C_below HX.out HB.out)).mono ?_; rintro e w1 ⟨rfl, hb⟩; have HB1 := Aside0.mk (below_step HB.out hb); clear hb)
            | (go_at_call 79; refine (HF.out _ (Kd.C_below HR.out HB1.out)).mono ?_; rintro e w2 ⟨rfl, hb⟩; have HB2 := Aside0.mk (below_step HB1.out hb); clear hb))
          go_ret2
          exact ⟨none, 0, rfl, Nat.le_refl _, Kd.C_nil _ _, HB2.out⟩
        · have z2 : ¬ 12 ≤ l.length := by omega
          rw [if_neg c2]
          clear c2
          go_enter Try.func35, Try.ntmps35
          go_wp2_with (first
            | (go_at_call 78; refine (HRT.out _ (Kd.C_below HX.out HB.out)).mono ?_; rintro e w1 ⟨rfl, hb⟩; have HG1 := Aside0.mk (HG.out.below hb); have HB1 := Aside0.mk (below_step HB.out hb); clear hb)
            | (go_at_call 79; refine (HF.out _ (Kd.C_below HR.out HB1.out)).mono ?_; rintro e w2 ⟨rfl, hb⟩; have HG2 := Aside0.mk (HG1.out.below hb); have HB2 := Aside0.mk (below_step HB1.out hb); have d0 := HG2.out.cell 0; have d1 := HG2.out.cell 1; have d2 := HG2.out.cell 2; have d3 := HG2.out.cell 3; have d4 := HG2.out.cell 4; simp only [List.getElem?_toArray, List.getElem?_cons_zero, List.getElem?_cons_succ] at d0 d1 d2 d3 d4; clear hb))
          obtain ⟨vs, hvs, hraw⟩ := raw_of (Kd.C_below HR.out HB2.out)
          have HVS := Aside0.mk hvs
          have HL := Aside0.mk hvs.1
          have HV1 := Aside0.mk (one_row (w := w2) ⟨id, x, true⟩ HD.out (Kd.C_below HX.out HB2.out))
          obtain ⟨hs, hhs⟩ : ∃ cs : List Value, [.string id, .int .i64 x.f0, .string x.f1, .int .i64 x.f2, .int .i64 x.f3, .slice B x.f4.length d, .bool true] = cs := ⟨_, rfl⟩
          rw [hhs] at HV1
          have e1 : #[Value.string id, .int .i64 x.f0, .string x.f1, .int .i64 x.f2, .int .i64 x.f3, .slice B x.f4.length d, .bool true] = hs.toArray := by rw [← hhs]
          rw [e1]
          have hb3 : Below w2.heap.size w2 ((w2.alloc (.cells hs.toArray 52)).alloc (.cells #[.slice A l.length c, .slice (some ⟨w2.heap.size, 0, none⟩) 1 1] 50)) := below_alloc (below_alloc (Below.refl _ _) _) _
          have hone := one_hold (cs := hs) (by rw [← hhs]; rfl) (by rw [← hhs]; simp [Value.oneCell']) (blk1 w2 (.cells hs.toArray 52) (.cells #[.slice A l.length c, .slice (some ⟨w2.heap.size, 0, none⟩) 1 1] 50))
          have hcat := concat_c vs [hs] A c (some ⟨w2.heap.size, 0, none⟩) 1 (w2.heap.size + 1) _ (by have h := blk2 w2 (.cells hs.toArray 52) (.cells #[.slice A l.length c, .slice (some ⟨w2.heap.size, 0, none⟩) 1 1] 50); rw [HL.out]; exact h) (Kd.C_below hraw hb3) hone (by simp) (by rw [HL.out]; simp; omega)
          refine hcat.mono ?_
          rintro e w3 ⟨D, m, rfl, hm, hq, hb⟩
          have HRW := Aside0.mk ((HVS.out.append HV1.out).below (below_step hb3 hb))
          have HQ := Aside0.mk (And.intro hm hq)
          have HB3 := Aside0.mk (below_step HB2.out (below_step hb3 hb))
          obtain ⟨n, hn⟩ : ∃ n, (vs ++ [hs]).length = n := ⟨_, rfl⟩
          have hn2 : (l ++ [(⟨id, x, true⟩ : S52)]).length = n := by rw [← hn]; simp [HL.out]
          have HN := Aside0.mk (And.intro hn hn2)
          rw [hn] at ⊢
          clear hcat hone hb3 e1 hraw hvs hm hq hb hn hn2
          go_wp2
          go_ret2
          have hqq := HQ.out.2
          exact ⟨D, m, by rw [HN.out.2]; rfl, by rw [HN.out.2, ← HN.out.1]; exact HQ.out.1, of_raw HRW.out hqq, HB3.out⟩
end Go.Proofs.Ytgdpabedlghiaaa.Scope
/- make and copy of a row of holds as blocks; what hold.turn computes. -/
namespace Go.Proofs.Ytgdpabedlghiaaa.Scope
set_option linter.unusedVariables false
set_option linter.unusedSimpArgs false
open Go.RowKit Go.Proofs.YtgdpabedlghiaaaW.PrintWords Go.Proofs.YtgdpabedlghiaaaW.PrintLast Go.Proofs.YtgdpabedlghiaaaW.PrintMore Go.Proofs.Ytgdpabedlghiaaa.PZ
section
variable {P : Program}
theorem make_row {w : World} {ops : Array Oper} {rest : List Oper} {o : Oper} {a : Act} {Q : Exit → Act → World → Prop} (hgd : o.guard = none) (t e : TypeId) (x y : Operand) (ho : o.op = .makeSlice t x y) (n : Nat) (hx : a.eval x = .int .i64 (n : Int)) (hy : a.eval y = .int .i64 (n : Int))
    (ht : P.underlying t = some (.slice e)) (i0 : TypeInfo) (hi : P.info? e = some i0) (z : Value) (hz : i0.zero = some z) (hl : i0.bytes * n ≤ 281474976710656) (hn : n ≤ 281474976710656)
    (h : wpList P ops Q rest (a.put o.dst (.slice (some ⟨w.heap.size, 0, none⟩) n n)) (w.alloc (.cells (madeCells z.cells (n * i0.size)) e))) : wpList P ops Q (o :: rest) a w := by
  refine wpList_plain hgd fun K hK => ?_
  have hr := run_make (P := P) w t e i0 z ht hi hz .i64 .i64 (n : Int) (n : Int) (by omega) (by omega) (by rw [← Int.natCast_mul]; omega) (by omega)
  simp only [Int.toNat_natCast] at hr
  unfold Oper.wp
  simp [execOp, ho, hx, hy, hr, Result.andThen]
  exact hK _ _ h
theorem run_copy_rows (w : World) (dT sT ty elem : TypeId) (i : TypeInfo) (g dLen dCap : Nat) (a : Addr) (sLen sCap : Nat) (cur : Array Value) (t : TypeId) (cs : List Value)
    (hu : P.underlying dT = some (.slice elem)) (hi : P.info? elem = some i) (hg : w.heap[g]? = some (.cells cur t (0, 0))) (hn : cs.length = Nat.min sLen dLen * i.size)
    (hsrc : ∀ j v, cs[j]? = some v → w.cell? (a.add j) = some v) (hfit : cs.length = cur.size) (h1 : ∀ v ∈ cs, v.oneCell' = true) :
    (Builtin.copy_ #[dT, sT] ty #[.slice (some ⟨g, 0, none⟩) dLen dCap, .slice (some a) sLen sCap]).run P w = .ok (goInt (Nat.min sLen dLen)) (w.setRow g cs.toArray) := by
  have hl := run_loadCells_list (P := P) w a cs hsrc
  have hst := run_storeCells_at P g 0 t cs 0 cur w hg (by omega) h1
  have e1 : cur.toList.drop (0 + 0 + cs.length) = [] := List.drop_eq_nil_of_le (by simp [hfit])
  rw [e1] at hst
  simp only [Nat.add_zero, List.take_zero, List.nil_append, List.append_nil] at hst
  simp [Builtin.copy_, run_underlying hu, Builtin.lenOf, Builtin.firstCells, sizeOf, typeInfo, hi, ← hn, hl, hst]
theorem copy_rows {w : World} {ops : Array Oper} {rest : List Oper} {o : Oper} {a : Act} {Q : Exit → Act → World → Prop} (hgd : o.guard = none) (d s : Operand) (dT sT : TypeId)
    (ho : o.op = .call { callee := .builtin .copy, args := #[d, s], argTypes := #[dT, sT] }) (elem : TypeId) (i : TypeInfo) (hu : P.underlying dT = some (.slice elem)) (hi : P.info? elem = some i)
    (g n dCap : Nat) (ad : Addr) (sCap : Nat) (hd : a.eval d = .slice (some ⟨g, 0, none⟩) n dCap) (hs : a.eval s = .slice (some ad) n sCap)
    (cur : Array Value) (t : TypeId) (hg : w.heap[g]? = some (.cells cur t (0, 0))) (cs : List Value) (hn : cs.length = n * i.size)
    (hsrc : ∀ j v, cs[j]? = some v → w.cell? (ad.add j) = some v) (hfit : cs.length = cur.size) (h1 : ∀ v ∈ cs, v.oneCell' = true)
    (h : wpList P ops Q rest (a.put o.dst (goInt n)) (w.setRow g cs.toArray)) : wpList P ops Q (o :: rest) a w := by
  refine wpList_plain hgd fun K hK => ?_
  have hrun := run_copy_rows (P := P) w dT sT o.type elem i g n dCap ad n sCap cur t cs hu hi hg (by rw [hn]; congr 1; exact (Nat.min_self n).symm) hsrc hfit h1
  rw [show Nat.min n n = n from Nat.min_self n] at hrun
  unfold Oper.wp
  simp [execOp, ho, resolve, invoke, builtin, hd, hs, hrun, Result.andThen]
  exact hK _ _ h
end
/-- The cells of rows, one behind the other. -/
theorem flat_get : ∀ (vs : List (List Value)) (j k : Nat), (∀ c ∈ vs, c.length = 7) → k < 7 → vs.flatten[j * 7 + k]? = (vs[j]?).bind (fun c => c[k]?)
  | [], j, k, _, _ => by simp
  | c :: vs, 0, k, h, hk => by
    have hc := h c (by simp)
    simp only [List.flatten_cons, Nat.zero_mul, Nat.zero_add, List.getElem?_cons_zero, Option.bind_some]
    rw [List.getElem?_append_left (by omega)]
  | c :: vs, j + 1, k, h, hk => by
    have hc := h c (by simp)
    have ih := flat_get vs j k (fun d hd => h d (by simp [hd])) hk
    simp only [List.flatten_cons, List.getElem?_cons_succ]
    rw [List.getElem?_append_right (by omega), show (j + 1) * 7 + k - c.length = j * 7 + k by omega]
    exact ih
theorem flat_len : ∀ (vs : List (List Value)), (∀ c ∈ vs, c.length = 7) → vs.flatten.length = vs.length * 7
  | [], _ => rfl
  | c :: vs, h => by
    have hc := h c (by simp)
    have ih := flat_len vs (fun d hd => h d (by simp [hd]))
    rw [List.flatten_cons, List.length_append, ih, hc, List.length_cons]
    omega
theorem flat_one : ∀ (vs : List (List Value)), (∀ c ∈ vs, ∀ u ∈ c, u.oneCell' = true) → ∀ u ∈ vs.flatten, u.oneCell' = true := by
  intro vs h u hu
  obtain ⟨c, hc, hu⟩ := List.mem_flatten.1 hu
  exact h c hc u hu
/-- What a row of rows of cells says of them. -/
theorem raw_rows {w : World} {A : Option Addr} {vs : List (List Value)} (h : (Kd.raw 7).C w A vs.length vs) (hp : 0 < vs.length) : ∃ ad, A = some ad ∧ (∀ c ∈ vs, c.length = 7) ∧ (∀ c ∈ vs, ∀ u ∈ c, u.oneCell' = true) ∧ ∀ j v, vs.flatten[j]? = some v → w.cell? (ad.add j) = some v := by
  obtain ⟨ad, rfl, hc⟩ := h.2.2 hp
  have hlen : ∀ c ∈ vs, c.length = 7 := fun c hm => by
    obtain ⟨j, hj, rfl⟩ := List.getElem_of_mem hm
    obtain ⟨c', h1, ⟨rfl, h2, h3⟩, h4⟩ := hc j _ (List.getElem?_eq_getElem hj)
    exact h1
  refine ⟨ad, rfl, hlen, fun c hm => ?_, fun j v hv => ?_⟩
  · obtain ⟨j, hj, rfl⟩ := List.getElem_of_mem hm
    obtain ⟨c', h1, ⟨rfl, h2, h3⟩, h4⟩ := hc j _ (List.getElem?_eq_getElem hj)
    exact h3
  · have e : j = j / 7 * 7 + j % 7 := by omega
    have hk : j % 7 < 7 := Nat.mod_lt _ (by decide)
    generalize j / 7 = p at e
    generalize j % 7 = k at e hk
    subst e
    rw [flat_get vs p k hlen hk] at hv
    obtain ⟨c, hp1, hp2⟩ := Option.bind_eq_some_iff.1 hv
    obtain ⟨c', h1, ⟨rfl, h2, h3⟩, h4⟩ := hc p _ hp1
    exact h4 k v hp2
/-- A block of seven cells a row, as a row of rows. -/
theorem block_rows {w : World} {g : Nat} {cs : List Value} (vs : List (List Value)) (hg : w.heap[g]? = some (.cells cs.toArray 52 (0, 0))) (hl : ∀ c ∈ vs, c.length = 7) (h1 : ∀ c ∈ vs, ∀ u ∈ c, u.oneCell' = true) (hsz : vs.length ≤ 9223372036854775807) (he : cs = vs.flatten) : (Kd.raw 7).C w (some ⟨g, 0, none⟩) vs.length vs := by
  subst he
  refine ⟨rfl, hsz, fun _ => ⟨_, rfl, fun j p hj => ?_⟩⟩
  have hm := List.mem_of_getElem? hj
  refine ⟨p, hl p hm, ⟨rfl, hl p hm, h1 p hm⟩, fun k v hv => ?_⟩
  have hk : k < 7 := by rw [← hl p hm]; exact (List.getElem?_eq_some_iff.1 hv).1
  have e : (⟨g, 0, none⟩ : Addr).add (j * (Kd.raw 7).sz + k) = ⟨g, j * 7 + k, none⟩ := by unfold Addr.add; by_cases hi : j * 7 + k = 0 <;> simp [hi, Kd.raw] <;> omega
  rw [e]
  have hf := flat_get vs j k hl hk
  rw [hj] at hf
  simp only [Option.bind_some] at hf
  rw [hv] at hf
  have hi := (List.getElem?_eq_some_iff.1 hf).1
  simp only [World.cell?, hg]
  simpa using hf
theorem rows_set {α : Type} {d : Kd α} {w : World} {l : List α} {vs : List (List Value)} (h : Rows d w l vs) (i : Nat) (x : α) (c : List Value) (hk : d.K w x c) : Rows d w (l.set i x) (vs.set i c) := by
  refine ⟨by rw [List.length_set, List.length_set]; exact h.1, fun j y hj => ?_⟩
  have hlt : j < l.length := by have := (List.getElem?_eq_some_iff.1 hj).1; simpa using this
  by_cases hij : i = j
  · subst hij
    rw [List.getElem?_set_self hlt] at hj
    obtain rfl := Option.some.inj hj
    exact ⟨c, List.getElem?_set_self (by rw [h.1]; exact hlt), hk⟩
  · rw [List.getElem?_set_ne hij] at hj
    obtain ⟨c', h1, h2⟩ := h.2 j y hj
    exact ⟨c', by rw [List.getElem?_set_ne hij]; exact h1, h2⟩
/-- One of the rows is another one: as cells. -/
theorem flat_set (vs : List (List Value)) (hl : ∀ c ∈ vs, c.length = 7) (i : Nat) (c : List Value) (hc : c.length = 7) (cs : List Value) (hlen : cs.length = vs.flatten.length) (hi : i < vs.length)
    (hin : ∀ k, k < 7 → cs[i * 7 + k]? = c[k]?) (hout : ∀ j, (j < i * 7 ∨ i * 7 + 7 ≤ j) → cs[j]? = vs.flatten[j]?) : cs = (vs.set i c).flatten := by
  have hl2 : ∀ d ∈ vs.set i c, d.length = 7 := fun d hd => by
    rcases List.mem_or_eq_of_mem_set hd with h | rfl
    · exact hl d h
    · exact hc
  apply List.ext_getElem?
  intro j
  have e : j = j / 7 * 7 + j % 7 := by omega
  have hk : j % 7 < 7 := Nat.mod_lt _ (by decide)
  generalize j / 7 = p at e
  generalize j % 7 = k at e hk
  subst e
  rw [flat_get _ p k hl2 hk]
  by_cases hip : i = p
  · subst hip
    rw [hin k hk, List.getElem?_set_self hi]
    rfl
  · rw [hout _ (by omega), flat_get vs p k hl hk, List.getElem?_set_ne hip]
theorem make_run (n : Nat) (hn : n ≤ 1000) : ∃ zs : Array Value, zs.size = n * 7 ∧ ∀ W : World, (Instr.makeSlice 50 (.int .i64 (n : Int)) (.int .i64 (n : Int))).run Try.prog W = .ok (.slice (some ⟨W.heap.size, 0, none⟩) n n) (W.alloc (.cells zs 52)) := by
  obtain ⟨i0, hi0, hz, hs, hb⟩ := info_parts info52
  refine ⟨madeCells (Value.agg #[(.string ⟨#[]⟩), (.int .i64 0), (.string ⟨#[]⟩), (.int .i64 0), (.int .i64 0), (.slice none 0 0), (.bool false)]).cells (n * i0.size), ?_, fun W => ?_⟩
  · rw [size_madeCells, hs]
  · have h := run_make (P := Try.prog) W 50 52 i0 _ Try.underlying50 hi0 hz .i64 .i64 (n : Int) (n : Int) (by omega) (by omega) (by rw [hb]; omega) (by omega)
    simp only [Int.toNat_natCast] at h
    exact h
/-- What turn answers. -/
def turnB (newh : S52 → S52) (l : List S52) (id : ByteArray) : List S52 × Int :=
  if Name.nameB id = false then ([], 1) else match l[(findB l id).toNat]? with
    | none => ([], 5)
    | some h => if findB l id < 0 then ([], 5) else if h.f2 = false then ([], 13) else (l.set (findB l id).toNat (newh h), 0)
theorem turnB_bad (newh : S52 → S52) (l : List S52) (id : ByteArray) (h : Name.nameB id = false) : turnB newh l id = ([], 1) := by unfold turnB; rw [if_pos h]
theorem turnB_none (newh : S52 → S52) (l : List S52) (id : ByteArray) (h : Name.nameB id = true) {f : Int} (hf : findB l id = f) (c : f < 0) : turnB newh l id = ([], 5) := by
  unfold turnB
  rw [if_neg (by rw [h]; decide), hf]
  split
  · rfl
  · rw [if_pos c]
theorem turnB_state (newh : S52 → S52) (l : List S52) (id : ByteArray) (h : Name.nameB id = true) {i : Nat} (hf : findB l id = (i : Int)) {x : S52} (hx : l[i]? = some x) (ha : x.f2 = false) : turnB newh l id = ([], 13) := by
  unfold turnB
  rw [if_neg (by rw [h]; decide), hf, Int.toNat_natCast, hx]
  dsimp only
  rw [if_neg (by omega), if_pos ha]
theorem turnB_ok (newh : S52 → S52) (l : List S52) (id : ByteArray) (h : Name.nameB id = true) {i : Nat} (hf : findB l id = (i : Int)) {x : S52} (hx : l[i]? = some x) (ha : x.f2 = true) : turnB newh l id = (l.set i (newh x), 0) := by
  unfold turnB
  rw [if_neg (by rw [h]; decide), hf, Int.toNat_natCast, hx]
  dsimp only
  rw [if_neg (by omega), if_neg (by rw [ha]; decide)]
theorem runIdx_lt {σ : Type} (step : S52 → σ → Bool × σ) : ∀ (l : List S52) (i : Nat) (s : σ), (runIdx step l i s).1 < ((i + l.length : Nat) : Int)
  | [], i, s => by unfold runIdx; simp; omega
  | x :: l, i, s => by
    unfold runIdx
    have ih := runIdx_lt step l (i + 1) (step x s).2
    split
    · simp; omega
    · simp at ih ⊢; omega
theorem findB_lt (l : List S52) (id : ByteArray) : findB l id < (l.length : Int) := by
  have := runIdx_lt (fun (h : S52) (_ : Unit) => (h.f0.toList == id.toList, ())) l 0 ()
  simpa [findB] using this
end Go.Proofs.Ytgdpabedlghiaaa.Scope
/- hold.turn, Release, Amend walked (printed by gen_turn.py). -/
namespace Go.Proofs.Ytgdpabedlghiaaa.Scope
set_option linter.unusedVariables false
set_option linter.unusedSimpArgs false
open Go.RowKit Go.Proofs.YtgdpabedlghiaaaW.PrintWords Go.Proofs.YtgdpabedlghiaaaW.PrintLast Go.Proofs.YtgdpabedlghiaaaW.PrintMore Go.Proofs.Ytgdpabedlghiaaa.PZ

set_option maxHeartbeats 4000000 in
set_option maxRecDepth 100000 in
theorem turn_rel (newh : S52 → S52) (upd : List Value → Nat → List Value) (l : List S52) (id : ByteArray) (A : Option Addr) (c : Nat) (w : World) (hr : Kd.C k52 w A l.length l) (hlen : l.length ≤ 1000) (hc : l.length ≤ c)
    (hdo : ∀ (g : Nat) (W : World) (cs : List Value) (i : Nat), w.heap.size ≤ g → Below w.heap.size w W → W.heap[g]? = some (.cells cs.toArray 52 (0, 0)) → i * 7 + 7 ≤ cs.length → Calls Try.prog 82 #[.pointer (some ⟨g, i * 7, none⟩)] W fun e w' => e = .returned (.tuple #[]) ∧ w'.heap[g]? = some (.cells (upd cs (i * 7)).toArray 52 (0, 0)) ∧ Below w.heap.size w w')
    (hnew : ∀ (h : S52) (W : World) (vs : List Value) (cs : List Value) (o : Nat), h ∈ l → Below w.heap.size w W → k52.K W h vs → (∀ k, k < 7 → cs[o + k]? = vs[k]?) → o + 7 ≤ cs.length → (upd cs o).length = cs.length ∧ (∀ j, (j < o ∨ o + 7 ≤ j) → (upd cs o)[j]? = cs[j]?) ∧ ∃ ns, ns.length = 7 ∧ (∀ u ∈ ns, u.oneCell' = true) ∧ (∀ k, k < 7 → (upd cs o)[o + k]? = ns[k]?) ∧ k52.K W (newh h) ns) :
    Calls Try.prog 81 #[.slice A l.length c, .string id, .func (.func 82) #[] #[]] w fun e w' => ∃ D m, e = .returned (.tuple #[.slice D (turnB newh l id).1.length m, .int .i64 (turnB newh l id).2]) ∧ (turnB newh l id).1.length ≤ m ∧ Kd.C k52 w' D (turnB newh l id).1.length (turnB newh l id).1 ∧ Below w.heap.size w w' := by
  have HB := Aside0.mk (Below.refl w.heap.size w)
  have HR := Aside0.mk hr
  have HL := Aside0.mk hlen
  have HC := Aside0.mk hc
  have HF := Aside0.mk (fun W (h : Kd.C k52 W A l.length l) => find_c l id A c W h)
  have HN := Aside0.mk (fun W => Name.name_c id W)
  have HFL := Aside0.mk (findB_lt l id)
  have HDO := Aside0.mk hdo
  have HNEW := Aside0.mk hnew
  have hu50 := Try.underlying50
  have hu52 := Try.underlying52
  clear hr hlen hc hdo hnew
  obtain ⟨f, hf⟩ : ∃ f, findB l id = f := ⟨_, rfl⟩
  rw [hf] at HF HFL
  cases hn : Name.nameB id with
  | false =>
    rw [hn] at HN
    rw [turnB_bad newh l id hn]
    clear hn hf
    go_enter Try.func81, Try.ntmps81
    go_wp2_with (first
      | (go_at_call 79; refine (HF.out _ HR.out).mono ?_; rintro e w1 ⟨rfl, hb⟩; have HB1 := Aside0.mk hb; clear hb)
      | (go_at_call 21; refine (HN.out _).mono ?_; rintro e w2 ⟨rfl, hb⟩; have HB2 := Aside0.mk (below_step HB1.out hb); clear hb))
    go_ret2
    exact ⟨none, 0, rfl, Nat.le_refl _, Kd.C_nil _ _, HB2.out⟩
  | true =>
    rw [hn] at HN
    by_cases c1 : f < 0
    · have z1 : decide (f < 0) = true := decide_eq_true c1
      rw [turnB_none newh l id hn hf c1]
      clear c1 hn hf
      go_enter Try.func81, Try.ntmps81
      go_wp2_with (first
        | (go_at_call 79; refine (HF.out _ HR.out).mono ?_; rintro e w1 ⟨rfl, hb⟩; have HB1 := Aside0.mk hb; clear hb)
        | (go_at_call 21; refine (HN.out _).mono ?_; rintro e w2 ⟨rfl, hb⟩; have HB2 := Aside0.mk (below_step HB1.out hb); clear hb))
      go_ret2
      exact ⟨none, 0, rfl, Nat.le_refl _, Kd.C_nil _ _, HB2.out⟩
    · obtain ⟨i, rfl⟩ := Int.eq_ofNat_of_zero_le (show (0 : Int) ≤ f by omega)
      have hlt : i < l.length := by have := HFL.out; omega
      have z1 : decide ((i : Int) < 0) = false := decide_eq_false c1
      obtain ⟨ad, A4, c4, rfl, hx0, hx1, hx2, hx3, hx4, hx5, hx6, hl4, hi4⟩ := at_T52 HR.out (i : Int) (by omega) (by omega)
      have hrd : rd_T52 l (i : Int) = l[i] := by simp [rd_T52, List.getD_eq_getElem?_getD, List.getElem?_eq_getElem hlt]
      have HM := Aside0.mk (List.getElem_mem hlt)
      have HX := Aside0.mk (List.getElem?_eq_getElem hlt)
      rw [hrd] at hx6
      obtain ⟨h, hh⟩ : ∃ h, l[i] = h := ⟨_, rfl⟩
      rw [hh] at hx6 HM HX
      have HX6 := Aside0.mk hx6
      clear hx0 hx1 hx2 hx3 hx4 hx5 hx6 hl4 hi4 hrd hh c1 HFL
      have p1 : (0 : Int) ≤ (i : Int) := by omega
      have p2 : (i : Int) < (l.length : Int) := by omega
      cases ha : h.f2 with
      | false =>
        rw [ha] at HX6
        rw [turnB_state newh l id hn hf HX.out ha]
        clear hn hf ha
        go_enter Try.func81, Try.ntmps81
        go_wp2_with (first
          | (go_at_call 79; refine (HF.out _ HR.out).mono ?_; rintro e w1 ⟨rfl, hb⟩; have HB1 := Aside0.mk hb; clear hb)
          | (go_at_call 21; refine (HN.out _).mono ?_; rintro e w2 ⟨rfl, hb⟩; have HB2 := Aside0.mk (below_step HB1.out hb); clear hb; have hx6 := (HB2.out.cell (World.block_lt_of_cell? _ _ HX6.out)).trans HX6.out; simp only [Int.toNat_natCast] at hx6))
        go_ret2
        exact ⟨none, 0, rfl, Nat.le_refl _, Kd.C_nil _ _, HB2.out⟩
      | true =>
        rw [ha] at HX6
        rw [turnB_ok newh l id hn hf HX.out ha]
        clear hn hf ha
        obtain ⟨i0, hi0, hpz⟩ := info_parts info52
        have HI := Aside0.mk (And.intro hi0 hpz.2.1)
        obtain ⟨zs, hzs, hmk⟩ := make_run l.length HL.out
        have HZ := Aside0.mk hzs
        obtain ⟨vs, hvs, hraw⟩ := raw_of HR.out
        have HVS := Aside0.mk hvs
        have HRAW := Aside0.mk hraw
        clear hvs hraw
        clear hpz hi0 hzs
        go_enter Try.func81, Try.ntmps81
        go_wp2_with (first
          | (go_at_call 79; refine (HF.out _ HR.out).mono ?_; rintro e w1 ⟨rfl, hb⟩; have HB1 := Aside0.mk hb; clear hb)
          | (go_at_call 21; refine (HN.out _).mono ?_; rintro e w2 ⟨rfl, hb⟩; have HB2 := Aside0.mk (below_step HB1.out hb); clear hb; have hx6 := (HB2.out.cell (World.block_lt_of_cell? _ _ HX6.out)).trans HX6.out; simp only [Int.toNat_natCast] at hx6; have HRAW2 := Aside0.mk (Kd.C_below HRAW.out HB2.out))
          | ((with_reducible refine gate_builtin (b := .copy) (xs := #[.tmp 30, .tmp 31]) rfl ?_); have hvl := HVS.out.1; obtain ⟨ad', had, v1, v2, v3⟩ := raw_rows HRAW2.out (by omega); cases had; have HV1 := Aside0.mk v1; have HV2 := Aside0.mk v2; have hbz := below_alloc (Below.refl w2.heap.size w2) (.cells zs 52); go_must (refine copy_rows rfl (.tmp 30) (.tmp 31) 50 50 rfl 52 i0 hu50 HI.out.1 w2.heap.size l.length l.length ad c rfl rfl zs 52 (heap_alloc_new w2 _) vs.flatten (by rw [flat_len vs v1, HI.out.2, hvl]) (fun j v hv => (hbz.cell (World.block_lt_of_cell? _ _ (v3 j v hv))).trans (v3 j v hv)) (by rw [flat_len vs v1, HZ.out, hvl]) (flat_one vs v2) ?_); obtain ⟨w3, hw3⟩ : ∃ w3, w3 = (w2.alloc (.cells zs 52)).setRow w2.heap.size vs.flatten.toArray := ⟨_, rfl⟩; have HG3 := Aside0.mk (show w3.heap[w2.heap.size]? = some (.cells vs.flatten.toArray 52 (0, 0)) by rw [hw3]; exact setRow_heap _ _ _ _ _ _ (heap_alloc_new w2 _)); have HB3 := Aside0.mk (show Below w2.heap.size w2 w3 by rw [hw3]; exact below_setRow hbz (Nat.le_refl _) _); rw [← hw3]; clear hw3 hbz v1 v2 v3 hvl)
          | (go_at_call 82; refine (HDO.out w2.heap.size w3 vs.flatten i (below_size HB2.out) (below_step HB2.out HB3.out) HG3.out (by have := HVS.out.1; rw [flat_len vs HV1.out]; omega)).mono ?_; rintro e w4 ⟨rfl, hg4, hb4⟩; have HG4 := Aside0.mk hg4; have HB4 := Aside0.mk hb4; clear hg4 hb4))
        go_ret2
        have hvl := HVS.out.1
        obtain ⟨cv, hcv, hK⟩ := HVS.out.2 i h HX.out
        obtain ⟨n1, n2, ns, n3, n4, n5, n6⟩ := HNEW.out h w4 cv vs.flatten (i * 7) HM.out HB4.out (k52.K_below HB4.out hK) (fun k hk => by rw [flat_get vs i k HV1.out hk, hcv]; rfl) (by rw [flat_len vs HV1.out]; omega)
        have hl2 : ∀ d ∈ vs.set i ns, d.length = 7 := fun d hd => by
          rcases List.mem_or_eq_of_mem_set hd with h | rfl
          · exact HV1.out d h
          · exact n3
        have ho2 : ∀ d ∈ vs.set i ns, ∀ u ∈ d, u.oneCell' = true := fun d hd => by
          rcases List.mem_or_eq_of_mem_set hd with h | rfl
          · exact HV2.out d h
          · exact n4
        have hrow := block_rows (vs.set i ns) HG4.out hl2 ho2 (by rw [List.length_set]; have := HL.out; omega) (flat_set vs HV1.out i ns n3 _ n1 (by omega) n5 n2)
        have hfin := of_raw (rows_set (HVS.out.below HB4.out) i (newh h) ns n6) hrow
        exact ⟨some ⟨w2.heap.size, 0, none⟩, l.length, by rw [List.length_set]; rfl, by rw [List.length_set]; exact Nat.le_refl _, hfin, HB4.out⟩

set_option maxHeartbeats 4000000 in
set_option maxRecDepth 100000 in
theorem turn_amd (b : Nat) (newh : S52 → S52) (upd : List Value → Nat → List Value) (l : List S52) (id : ByteArray) (A : Option Addr) (c : Nat) (w : World) (hr : Kd.C k52 w A l.length l) (hlen : l.length ≤ 1000) (hc : l.length ≤ c)
    (hdo : ∀ (g : Nat) (W : World) (cs : List Value) (i : Nat), w.heap.size ≤ g → Below w.heap.size w W → W.heap[g]? = some (.cells cs.toArray 52 (0, 0)) → i * 7 + 7 ≤ cs.length → Calls Try.prog 85 #[.pointer (some ⟨g, i * 7, none⟩), .pointer (some ⟨b, 0, none⟩)] W fun e w' => e = .returned (.tuple #[]) ∧ w'.heap[g]? = some (.cells (upd cs (i * 7)).toArray 52 (0, 0)) ∧ Below w.heap.size w w')
    (hnew : ∀ (h : S52) (W : World) (vs : List Value) (cs : List Value) (o : Nat), h ∈ l → Below w.heap.size w W → k52.K W h vs → (∀ k, k < 7 → cs[o + k]? = vs[k]?) → o + 7 ≤ cs.length → (upd cs o).length = cs.length ∧ (∀ j, (j < o ∨ o + 7 ≤ j) → (upd cs o)[j]? = cs[j]?) ∧ ∃ ns, ns.length = 7 ∧ (∀ u ∈ ns, u.oneCell' = true) ∧ (∀ k, k < 7 → (upd cs o)[o + k]? = ns[k]?) ∧ k52.K W (newh h) ns) :
    Calls Try.prog 81 #[.slice A l.length c, .string id, .func (.func 85) #[] #[.pointer (some ⟨b, 0, none⟩)]] w fun e w' => ∃ D m, e = .returned (.tuple #[.slice D (turnB newh l id).1.length m, .int .i64 (turnB newh l id).2]) ∧ (turnB newh l id).1.length ≤ m ∧ Kd.C k52 w' D (turnB newh l id).1.length (turnB newh l id).1 ∧ Below w.heap.size w w' := by
  have HB := Aside0.mk (Below.refl w.heap.size w)
  have HR := Aside0.mk hr
  have HL := Aside0.mk hlen
  have HC := Aside0.mk hc
  have HF := Aside0.mk (fun W (h : Kd.C k52 W A l.length l) => find_c l id A c W h)
  have HN := Aside0.mk (fun W => Name.name_c id W)
  have HFL := Aside0.mk (findB_lt l id)
  have HDO := Aside0.mk hdo
  have HNEW := Aside0.mk hnew
  have hu50 := Try.underlying50
  have hu52 := Try.underlying52
  clear hr hlen hc hdo hnew
  obtain ⟨f, hf⟩ : ∃ f, findB l id = f := ⟨_, rfl⟩
  rw [hf] at HF HFL
  cases hn : Name.nameB id with
  | false =>
    rw [hn] at HN
    rw [turnB_bad newh l id hn]
    clear hn hf
    go_enter Try.func81, Try.ntmps81
    go_wp2_with (first
      | (go_at_call 79; refine (HF.out _ HR.out).mono ?_; rintro e w1 ⟨rfl, hb⟩; have HB1 := Aside0.mk hb; clear hb)
      | (go_at_call 21; refine (HN.out _).mono ?_; rintro e w2 ⟨rfl, hb⟩; have HB2 := Aside0.mk (below_step HB1.out hb); clear hb))
    go_ret2
    exact ⟨none, 0, rfl, Nat.le_refl _, Kd.C_nil _ _, HB2.out⟩
  | true =>
    rw [hn] at HN
    by_cases c1 : f < 0
    · have z1 : decide (f < 0) = true := decide_eq_true c1
      rw [turnB_none newh l id hn hf c1]
      clear c1 hn hf
      go_enter Try.func81, Try.ntmps81
      go_wp2_with (first
        | (go_at_call 79; refine (HF.out _ HR.out).mono ?_; rintro e w1 ⟨rfl, hb⟩; have HB1 := Aside0.mk hb; clear hb)
        | (go_at_call 21; refine (HN.out _).mono ?_; rintro e w2 ⟨rfl, hb⟩; have HB2 := Aside0.mk (below_step HB1.out hb); clear hb))
      go_ret2
      exact ⟨none, 0, rfl, Nat.le_refl _, Kd.C_nil _ _, HB2.out⟩
    · obtain ⟨i, rfl⟩ := Int.eq_ofNat_of_zero_le (show (0 : Int) ≤ f by omega)
      have hlt : i < l.length := by have := HFL.out; omega
      have z1 : decide ((i : Int) < 0) = false := decide_eq_false c1
      obtain ⟨ad, A4, c4, rfl, hx0, hx1, hx2, hx3, hx4, hx5, hx6, hl4, hi4⟩ := at_T52 HR.out (i : Int) (by omega) (by omega)
      have hrd : rd_T52 l (i : Int) = l[i] := by simp [rd_T52, List.getD_eq_getElem?_getD, List.getElem?_eq_getElem hlt]
      have HM := Aside0.mk (List.getElem_mem hlt)
      have HX := Aside0.mk (List.getElem?_eq_getElem hlt)
      rw [hrd] at hx6
      obtain ⟨h, hh⟩ : ∃ h, l[i] = h := ⟨_, rfl⟩
      rw [hh] at hx6 HM HX
      have HX6 := Aside0.mk hx6
      clear hx0 hx1 hx2 hx3 hx4 hx5 hx6 hl4 hi4 hrd hh c1 HFL
      have p1 : (0 : Int) ≤ (i : Int) := by omega
      have p2 : (i : Int) < (l.length : Int) := by omega
      cases ha : h.f2 with
      | false =>
        rw [ha] at HX6
        rw [turnB_state newh l id hn hf HX.out ha]
        clear hn hf ha
        go_enter Try.func81, Try.ntmps81
        go_wp2_with (first
          | (go_at_call 79; refine (HF.out _ HR.out).mono ?_; rintro e w1 ⟨rfl, hb⟩; have HB1 := Aside0.mk hb; clear hb)
          | (go_at_call 21; refine (HN.out _).mono ?_; rintro e w2 ⟨rfl, hb⟩; have HB2 := Aside0.mk (below_step HB1.out hb); clear hb; have hx6 := (HB2.out.cell (World.block_lt_of_cell? _ _ HX6.out)).trans HX6.out; simp only [Int.toNat_natCast] at hx6))
        go_ret2
        exact ⟨none, 0, rfl, Nat.le_refl _, Kd.C_nil _ _, HB2.out⟩
      | true =>
        rw [ha] at HX6
        rw [turnB_ok newh l id hn hf HX.out ha]
        clear hn hf ha
        obtain ⟨i0, hi0, hpz⟩ := info_parts info52
        have HI := Aside0.mk (And.intro hi0 hpz.2.1)
        obtain ⟨zs, hzs, hmk⟩ := make_run l.length HL.out
        have HZ := Aside0.mk hzs
        obtain ⟨vs, hvs, hraw⟩ := raw_of HR.out
        have HVS := Aside0.mk hvs
        have HRAW := Aside0.mk hraw
        clear hvs hraw
        clear hpz hi0 hzs
        go_enter Try.func81, Try.ntmps81
        go_wp2_with (first
          | (go_at_call 79; refine (HF.out _ HR.out).mono ?_; rintro e w1 ⟨rfl, hb⟩; have HB1 := Aside0.mk hb; clear hb)
          | (go_at_call 21; refine (HN.out _).mono ?_; rintro e w2 ⟨rfl, hb⟩; have HB2 := Aside0.mk (below_step HB1.out hb); clear hb; have hx6 := (HB2.out.cell (World.block_lt_of_cell? _ _ HX6.out)).trans HX6.out; simp only [Int.toNat_natCast] at hx6; have HRAW2 := Aside0.mk (Kd.C_below HRAW.out HB2.out))
          | ((with_reducible refine gate_builtin (b := .copy) (xs := #[.tmp 30, .tmp 31]) rfl ?_); have hvl := HVS.out.1; obtain ⟨ad', had, v1, v2, v3⟩ := raw_rows HRAW2.out (by omega); cases had; have HV1 := Aside0.mk v1; have HV2 := Aside0.mk v2; have hbz := below_alloc (Below.refl w2.heap.size w2) (.cells zs 52); go_must (refine copy_rows rfl (.tmp 30) (.tmp 31) 50 50 rfl 52 i0 hu50 HI.out.1 w2.heap.size l.length l.length ad c rfl rfl zs 52 (heap_alloc_new w2 _) vs.flatten (by rw [flat_len vs v1, HI.out.2, hvl]) (fun j v hv => (hbz.cell (World.block_lt_of_cell? _ _ (v3 j v hv))).trans (v3 j v hv)) (by rw [flat_len vs v1, HZ.out, hvl]) (flat_one vs v2) ?_); obtain ⟨w3, hw3⟩ : ∃ w3, w3 = (w2.alloc (.cells zs 52)).setRow w2.heap.size vs.flatten.toArray := ⟨_, rfl⟩; have HG3 := Aside0.mk (show w3.heap[w2.heap.size]? = some (.cells vs.flatten.toArray 52 (0, 0)) by rw [hw3]; exact setRow_heap _ _ _ _ _ _ (heap_alloc_new w2 _)); have HB3 := Aside0.mk (show Below w2.heap.size w2 w3 by rw [hw3]; exact below_setRow hbz (Nat.le_refl _) _); rw [← hw3]; clear hw3 hbz v1 v2 v3 hvl)
          | (go_at_call 85; refine (HDO.out w2.heap.size w3 vs.flatten i (below_size HB2.out) (below_step HB2.out HB3.out) HG3.out (by have := HVS.out.1; rw [flat_len vs HV1.out]; omega)).mono ?_; rintro e w4 ⟨rfl, hg4, hb4⟩; have HG4 := Aside0.mk hg4; have HB4 := Aside0.mk hb4; clear hg4 hb4))
        go_ret2
        have hvl := HVS.out.1
        obtain ⟨cv, hcv, hK⟩ := HVS.out.2 i h HX.out
        obtain ⟨n1, n2, ns, n3, n4, n5, n6⟩ := HNEW.out h w4 cv vs.flatten (i * 7) HM.out HB4.out (k52.K_below HB4.out hK) (fun k hk => by rw [flat_get vs i k HV1.out hk, hcv]; rfl) (by rw [flat_len vs HV1.out]; omega)
        have hl2 : ∀ d ∈ vs.set i ns, d.length = 7 := fun d hd => by
          rcases List.mem_or_eq_of_mem_set hd with h | rfl
          · exact HV1.out d h
          · exact n3
        have ho2 : ∀ d ∈ vs.set i ns, ∀ u ∈ d, u.oneCell' = true := fun d hd => by
          rcases List.mem_or_eq_of_mem_set hd with h | rfl
          · exact HV2.out d h
          · exact n4
        have hrow := block_rows (vs.set i ns) HG4.out hl2 ho2 (by rw [List.length_set]; have := HL.out; omega) (flat_set vs HV1.out i ns n3 _ n1 (by omega) n5 n2)
        have hfin := of_raw (rows_set (HVS.out.below HB4.out) i (newh h) ns n6) hrow
        exact ⟨some ⟨w2.heap.size, 0, none⟩, l.length, by rw [List.length_set]; rfl, by rw [List.length_set]; exact Nat.le_refl _, hfin, HB4.out⟩

end Go.Proofs.Ytgdpabedlghiaaa.Scope
/- hold.Release, Amend walked. -/
namespace Go.Proofs.Ytgdpabedlghiaaa.Scope
set_option linter.unusedVariables false
set_option linter.unusedSimpArgs false
open Go.RowKit Go.Proofs.YtgdpabedlghiaaaW.PrintWords Go.Proofs.YtgdpabedlghiaaaW.PrintLast Go.Proofs.YtgdpabedlghiaaaW.PrintMore Go.Proofs.Ytgdpabedlghiaaa.PZ
theorem list_cell {W : World} {g T : Nat} {cs : List Value} (hg : W.heap[g]? = some (.cells cs.toArray T (0, 0))) (i : Nat) (hi : i < cs.length) : W.cell? ⟨g, i, none⟩ = some cs[i] := by
  simp [World.cell?, hg, hi]
theorem list_free {W : World} {g T : Nat} {cs : List Value} (hg : W.heap[g]? = some (.cells cs.toArray T (0, 0))) (i : Nat) : W.frozen? ⟨g, i, none⟩ = false := by
  simp [World.frozen?, hg]
set_option maxHeartbeats 1000000 in
set_option maxRecDepth 100000 in
theorem rel1_c (B : Nat) (w0 : World) (g : Nat) (W : World) (cs : List Value) (o : Nat) (hB : B ≤ g) (hb : Below B w0 W) (hg : W.heap[g]? = some (.cells cs.toArray 52 (0, 0))) (ho : o + 7 ≤ cs.length) :
    Calls Try.prog 82 #[.pointer (some ⟨g, o, none⟩)] W fun e w' => e = .returned (.tuple #[]) ∧ w'.heap[g]? = some (.cells (cs.set (o + 6) (.bool false)).toArray 52 (0, 0)) ∧ Below B w0 w' := by
  have HG := Aside0.mk hg
  have HBB := Aside0.mk (And.intro hB hb)
  have d6 := list_cell hg (o + 6) (by omega)
  have f6 := list_free hg (o + 6)
  obtain ⟨u, hu⟩ : ∃ u, cs[o + 6] = u := ⟨_, rfl⟩
  rw [hu] at d6
  have hu52 := Try.underlying52
  clear hg hu hb hB
  go_enter Try.func82, Try.ntmps82
  go_wp2
  refine bodyPost_end (results_none rfl _ _ _) rfl ⟨rfl, ?_, ?_⟩
  · rw [setCell_eq_setRow W g (o + 6) cs.toArray 52 (0, 0) _ HG.out]
    rw [setRow_heap W g _ _ _ _ HG.out]
    simp
  · rw [setCell_eq_setRow W g (o + 6) cs.toArray 52 (0, 0) _ HG.out]
    exact below_setRow HBB.out.2 HBB.out.1 _
/-- A hold, not active any more. -/
def offH (h : S52) : S52 := ⟨h.f0, h.f1, false⟩
theorem rel_new (h : S52) (W : World) (vs : List Value) (cs : List Value) (o : Nat) (hK : k52.K W h vs) (hcs : ∀ k, k < 7 → cs[o + k]? = vs[k]?) (ho : o + 7 ≤ cs.length) :
    (cs.set (o + 6) (.bool false)).length = cs.length ∧ (∀ j, (j < o ∨ o + 7 ≤ j) → (cs.set (o + 6) (.bool false))[j]? = cs[j]?) ∧ ∃ ns, ns.length = 7 ∧ (∀ u ∈ ns, u.oneCell' = true) ∧ (∀ k, k < 7 → (cs.set (o + 6) (.bool false))[o + k]? = ns[k]?) ∧ k52.K W (offH h) ns := by
  obtain ⟨A5, c5, rfl, h5, hx⟩ := k52_open hK
  refine ⟨List.length_set, fun j hj => List.getElem?_set_ne (by omega), [.string h.f0, .int .i64 h.f1.f0, .string h.f1.f1, .int .i64 h.f1.f2, .int .i64 h.f1.f3, .slice A5 h.f1.f4.length c5, .bool false], rfl, by simp [Value.oneCell'], fun k hk => ?_, k52_mk W (offH h) h5 hx⟩
  by_cases h6 : k = 6
  · subst h6
    rw [List.getElem?_set_self (by omega)]
    rfl
  · rw [List.getElem?_set_ne (by omega), hcs k hk]
    have : k < 6 := by omega
    match k, this with
    | 0, _ => rfl
    | 1, _ => rfl
    | 2, _ => rfl
    | 3, _ => rfl
    | 4, _ => rfl
    | 5, _ => rfl
/-- What Release answers. -/
def relB (l : List S52) (id : ByteArray) : List S52 × Int := turnB offH l id
set_option maxHeartbeats 1000000 in
set_option maxRecDepth 100000 in
theorem release_c (l : List S52) (id : ByteArray) (A : Option Addr) (c : Nat) (w : World) (hr : Kd.C k52 w A l.length l) (hlen : l.length ≤ 1000) (hc : l.length ≤ c) :
    Calls Try.prog 37 #[.slice A l.length c, .string id] w fun e w' => ∃ D m, e = .returned (.tuple #[.slice D (relB l id).1.length m, .int .i64 (relB l id).2]) ∧ (relB l id).1.length ≤ m ∧ Kd.C k52 w' D (relB l id).1.length (relB l id).1 ∧ Below w.heap.size w w' := by
  have HT := Aside0.mk (turn_rel offH (fun cs o => cs.set (o + 6) (.bool false)) l id A c w hr hlen hc (fun g W cs i h1 h2 h3 h4 => rel1_c w.heap.size w g W cs (i * 7) h1 h2 h3 h4) (fun h W vs cs o _ _ h2 h3 h4 => rel_new h W vs cs o h2 h3 h4))
  unfold relB
  obtain ⟨r, hr_⟩ : ∃ r, turnB offH l id = r := ⟨_, rfl⟩
  rw [hr_] at HT ⊢
  have hu50 := Try.underlying50
  clear hr hlen hc hr_
  go_enter Try.func37, Try.ntmps37
  go_wp2_with (go_at_call 81; refine HT.out.mono ?_; rintro e w' ⟨D, m, rfl, h1, h2, h3⟩; have HV := Aside0.mk (And.intro h1 (And.intro h2 h3)); clear h1 h2 h3)
  go_ret2
  exact ⟨D, m, rfl, HV.out.1, HV.out.2.1, HV.out.2.2⟩
theorem run_store_mid {P : Program} (w : World) (g o : Nat) (t ty : TypeId) (cs vs : List Value) (hg : w.heap[g]? = some (.cells cs.toArray t (0, 0))) (hi : (P.info? ty).map (·.size) = some vs.length) (ho : o + vs.length ≤ cs.length) (h1 : ∀ v ∈ vs, v.oneCell' = true) :
    (storeVar ty ⟨g, o, none⟩ (.agg vs.toArray)).run P w = .ok () (w.setRow g (cs.take o ++ vs ++ cs.drop (o + vs.length)).toArray) := by
  have := run_storeCells_at P g o t vs 0 cs.toArray w hg (by simpa using ho) h1
  cases hq : P.info? ty with
  | none => simp [hq] at hi
  | some i =>
    have hs : vs.length = i.size := by simp [hq] at hi; omega
    simp only [Nat.add_zero] at this
    simp [storeVar, sizeOf, typeInfo, hq, Value.cells, hs] at this ⊢
    simp [this]
theorem store_mid {P : Program} {ops : Array Oper} {rest : List Oper} {o : Oper} {a : Act} {w : World} {Q : Exit → Act → World → Prop} (hgd : o.guard = none) (ty : TypeId) (x y : Operand) (ho : o.op = .store ty x y)
    (g off : Nat) (vs : List Value) (hx : a.eval x = .pointer (some ⟨g, off, none⟩)) (hy : a.eval y = .agg vs.toArray)
    (t : TypeId) (cs : List Value) (hg : w.heap[g]? = some (.cells cs.toArray t (0, 0))) (hi : (P.info? ty).map (·.size) = some vs.length)
    (hl : off + vs.length ≤ cs.length) (h1 : ∀ v ∈ vs, v.oneCell' = true)
    (h : wpList P ops Q rest (a.put o.dst undef) (w.setRow g (cs.take off ++ vs ++ cs.drop (off + vs.length)).toArray)) : wpList P ops Q (o :: rest) a w := by
  refine wpList_plain hgd fun K hK => ?_
  unfold Oper.wp execOp
  simp only [ho, hx, hy, Instr.storeAt, Instr.sureAddr, Sem.run_bind, Sem.run_pure, Result.andThen_ok, run_store_mid w g off t ty cs vs hg hi hl h1]
  exact hK _ _ h
/-- A scope's cells. -/
def scopeCells (x : S40) (X : Option Addr) (d : Nat) : List Value := [.int .i64 x.f0, .string x.f1, .int .i64 x.f2, .int .i64 x.f3, .slice X x.f4.length d]
def amdU (x : S40) (X : Option Addr) (d : Nat) (cs : List Value) (o : Nat) : List Value := cs.take (o + 1) ++ scopeCells x X d ++ cs.drop (o + 1 + 5)
set_option maxHeartbeats 1000000 in
set_option maxRecDepth 100000 in
theorem amd1_c (x : S40) (b : Nat) (X : Option Addr) (d : Nat) (B : Nat) (w0 : World) (g : Nat) (W : World) (cs : List Value) (o : Nat) (hB : B ≤ g) (hb : Below B w0 W) (hg : W.heap[g]? = some (.cells cs.toArray 52 (0, 0))) (ho : o + 7 ≤ cs.length) (hx : Blk W b 40 #[.int .i64 x.f0, .string x.f1, .int .i64 x.f2, .int .i64 x.f3, .slice X x.f4.length d]) :
    Calls Try.prog 85 #[.pointer (some ⟨g, o, none⟩), .pointer (some ⟨b, 0, none⟩)] W fun e w' => e = .returned (.tuple #[]) ∧ w'.heap[g]? = some (.cells (amdU x X d cs o).toArray 52 (0, 0)) ∧ Below B w0 w' := by
  have HG := Aside0.mk hg
  have HBB := Aside0.mk (And.intro hB hb)
  have d0 := hx.cell 0
  have d1 := hx.cell 1
  have d2 := hx.cell 2
  have d3 := hx.cell 3
  have d4 := hx.cell 4
  simp only [List.getElem?_toArray, List.getElem?_cons_zero, List.getElem?_cons_succ] at d0 d1 d2 d3 d4
  have hu52 := Try.underlying52
  have hu40 := Try.underlying40
  have HI := Aside0.mk (show (Try.prog.info? 40).map (·.size) = some (scopeCells x X d).length by obtain ⟨i0, hi0, _, h2, _⟩ := info_parts info40; rw [hi0]; simp [h2, scopeCells])
  have HO := Aside0.mk ho
  clear hg hb hB hx ho
  go_enter Try.func85, Try.ntmps85
  go_wp2_with ((with_reducible refine gate_store (t := 40) (p := 6) (v := .tmp 4) rfl ?_); refine store_mid rfl 40 (.tmp 6) (.tmp 4) rfl g (o + 1) (scopeCells x X d) rfl rfl 52 cs HG.out HI.out (by have := HO.out; simp [scopeCells]; omega) (by simp [scopeCells, Value.oneCell']) ?_)
  refine bodyPost_end (results_none rfl _ _ _) rfl ⟨rfl, ?_, ?_⟩
  · rw [setRow_heap W g _ _ _ _ HG.out, amdU, List.append_assoc]
    rfl
  · exact below_setRow HBB.out.2 HBB.out.1 _
/-- A hold about something else. -/
def onH (x : S40) (h : S52) : S52 := ⟨h.f0, x, h.f2⟩
theorem amd_at (x : S40) (X : Option Addr) (d : Nat) (cs : List Value) (o : Nat) (ho : o + 7 ≤ cs.length) (j : Nat) : (amdU x X d cs o)[j]? = if j < o + 1 then cs[j]? else if j < o + 6 then (scopeCells x X d)[j - (o + 1)]? else cs[j]? := by
  have hl : (scopeCells x X d).length = 5 := rfl
  unfold amdU
  by_cases h1 : j < o + 1
  · rw [if_pos h1, List.append_assoc, List.getElem?_append_left (by rw [List.length_take]; omega), List.getElem?_take, if_pos h1]
  · rw [if_neg h1]
    by_cases h2 : j < o + 6
    · rw [if_pos h2, List.append_assoc, List.getElem?_append_right (by rw [List.length_take]; omega), List.getElem?_append_left (by rw [List.length_take, hl]; omega), List.length_take]
      congr 1
      omega
    · rw [if_neg h2, List.getElem?_append_right (by rw [List.length_append, List.length_take, hl]; omega), List.getElem?_drop, List.length_append, List.length_take, hl]
      congr 1
      omega
theorem amd_new (x : S40) (X : Option Addr) (d : Nat) (h : S52) (W : World) (vs : List Value) (cs : List Value) (o : Nat) (hx : Kd.C k40 W X x.f4.length x.f4) (hd : x.f4.length ≤ d) (hK : k52.K W h vs) (hcs : ∀ k, k < 7 → cs[o + k]? = vs[k]?) (ho : o + 7 ≤ cs.length) :
    (amdU x X d cs o).length = cs.length ∧ (∀ j, (j < o ∨ o + 7 ≤ j) → (amdU x X d cs o)[j]? = cs[j]?) ∧ ∃ ns, ns.length = 7 ∧ (∀ u ∈ ns, u.oneCell' = true) ∧ (∀ k, k < 7 → (amdU x X d cs o)[o + k]? = ns[k]?) ∧ k52.K W (onH x h) ns := by
  obtain ⟨A5, c5, rfl, h5, hx5⟩ := k52_open hK
  have hl : (scopeCells x X d).length = 5 := rfl
  refine ⟨by unfold amdU; rw [List.length_append, List.length_append, List.length_take, List.length_drop, hl]; omega, fun j hj => ?_, [.string h.f0, .int .i64 x.f0, .string x.f1, .int .i64 x.f2, .int .i64 x.f3, .slice X x.f4.length d, .bool h.f2], rfl, by simp [Value.oneCell'], fun k hk => ?_, k52_mk W (onH x h) hd hx⟩
  · rw [amd_at x X d cs o ho]
    rcases hj with hj | hj
    · rw [if_pos (by omega)]
    · rw [if_neg (by omega), if_neg (by omega)]
  · rw [amd_at x X d cs o ho]
    match k, hk with
    | 0, _ => rw [if_pos (by omega)]; exact hcs 0 (by omega)
    | 1, _ => rw [if_neg (by omega), if_pos (by omega), show o + 1 - (o + 1) = 0 by omega]; rfl
    | 2, _ => rw [if_neg (by omega), if_pos (by omega), show o + 2 - (o + 1) = 1 by omega]; rfl
    | 3, _ => rw [if_neg (by omega), if_pos (by omega), show o + 3 - (o + 1) = 2 by omega]; rfl
    | 4, _ => rw [if_neg (by omega), if_pos (by omega), show o + 4 - (o + 1) = 3 by omega]; rfl
    | 5, _ => rw [if_neg (by omega), if_pos (by omega), show o + 5 - (o + 1) = 4 by omega]; rfl
    | 6, _ => rw [if_neg (by omega), if_neg (by omega)]; exact hcs 6 (by omega)
/-- What Amend answers. -/
def amdB (l : List S52) (id : ByteArray) (x : S40) : List S52 × Int := if Name.nameB id = false then ([], 1) else if mayB x = false then ([], 1) else turnB (onH x) l id
set_option maxHeartbeats 2000000 in
set_option maxRecDepth 100000 in
theorem amend_c (l : List S52) (id : ByteArray) (x : S40) (A : Option Addr) (c : Nat) (B : Option Addr) (d : Nat) (w : World) (hr : Kd.C k52 w A l.length l) (hlen : l.length ≤ 1000) (hc : l.length ≤ c) (hx : Kd.C k40 w B x.f4.length x.f4) (hd : x.f4.length ≤ d) :
    Calls Try.prog 40 #[.slice A l.length c, .string id, .agg #[.int .i64 x.f0, .string x.f1, .int .i64 x.f2, .int .i64 x.f3, .slice B x.f4.length d]] w fun e w' => ∃ D m, e = .returned (.tuple #[.slice D (amdB l id x).1.length m, .int .i64 (amdB l id x).2]) ∧ (amdB l id x).1.length ≤ m ∧ Kd.C k52 w' D (amdB l id x).1.length (amdB l id x).1 ∧ Below w.heap.size w w' := by
  have HB := Aside0.mk (below_alloc (Below.refl w.heap.size w) (.cells #[.int .i64 x.f0, .string x.f1, .int .i64 x.f2, .int .i64 x.f3, .slice B x.f4.length d] 40))
  have HG := Aside0.mk (show Blk (w.alloc (.cells #[.int .i64 x.f0, .string x.f1, .int .i64 x.f2, .int .i64 x.f3, .slice B x.f4.length d] 40)) w.heap.size 40 #[.int .i64 x.f0, .string x.f1, .int .i64 x.f2, .int .i64 x.f3, .slice B x.f4.length d] from blk_new _ _)
  have HR := Aside0.mk hr
  have HX := Aside0.mk hx
  have HRT := Aside0.mk (fun W (h : Kd.C k40 W B x.f4.length x.f4) => hold_right.calls id x.f0 x.f1 x.f2 x.f3 B d x.f4 _ W h hd (right_v id x))
  have HT := Aside0.mk (fun (b : Nat) (w2 : World) (hr2 : Kd.C k52 w2 A l.length l) (hx2 : Kd.C k40 w2 B x.f4.length x.f4) (hg2 : Blk w2 b 40 #[.int .i64 x.f0, .string x.f1, .int .i64 x.f2, .int .i64 x.f3, .slice B x.f4.length d]) =>
    turn_amd b (onH x) (amdU x B d) l id A c w2 hr2 hlen hc (fun g W cs i h1 h2 h3 h4 => amd1_c x b B d w2.heap.size w2 g W cs (i * 7) h1 h2 h3 h4 (hg2.below h2)) (fun h W vs cs o _ hb h2 h3 h4 => amd_new x B d h W vs cs o (Kd.C_below hx2 hb) hd h2 h3 h4))
  have hu40 := Try.underlying40
  have hu50 := Try.underlying50
  unfold amdB
  clear hr hlen hc hx hd
  cases hn : Name.nameB id with
  | false =>
    rw [hn, if_pos rfl] at HRT
    rw [if_pos rfl]
    clear hn
    go_enter Try.func40, Try.ntmps40
    go_wp2_with (go_at_call 78; refine (HRT.out _ (Kd.C_below HX.out HB.out)).mono ?_; rintro e w1 ⟨rfl, hb⟩; have HB1 := Aside0.mk (below_step HB.out hb); clear hb)
    go_ret2
    exact ⟨none, 0, rfl, Nat.le_refl _, Kd.C_nil _ _, HB1.out⟩
  | true =>
    rw [hn, if_neg (by decide)] at HRT
    rw [if_neg (by decide)]
    clear hn
    cases hm : mayB x with
    | false =>
      rw [hm, if_pos rfl] at HRT
      rw [if_pos rfl]
      clear hm
      go_enter Try.func40, Try.ntmps40
      go_wp2_with (go_at_call 78; refine (HRT.out _ (Kd.C_below HX.out HB.out)).mono ?_; rintro e w1 ⟨rfl, hb⟩; have HB1 := Aside0.mk (below_step HB.out hb); clear hb)
      go_ret2
      exact ⟨none, 0, rfl, Nat.le_refl _, Kd.C_nil _ _, HB1.out⟩
    | true =>
      rw [hm, if_neg (by decide)] at HRT
      rw [if_neg (by decide)]
      clear hm
      obtain ⟨r, hr_⟩ : ∃ r, turnB (onH x) l id = r := ⟨_, rfl⟩
      rw [hr_] at HT ⊢
      clear hr_
      go_enter Try.func40, Try.ntmps40
      go_wp2_with (first
        | (go_at_call 78; refine (HRT.out _ (Kd.C_below HX.out HB.out)).mono ?_; rintro e w1 ⟨rfl, hb⟩; have HG1 := Aside0.mk (HG.out.below hb); have HB1 := Aside0.mk (below_step HB.out hb); clear hb)
        | (go_at_call 81; refine (HT.out w.heap.size w1 (Kd.C_below HR.out HB1.out) (Kd.C_below HX.out HB1.out) HG1.out).mono ?_; rintro e w2 ⟨D, m, rfl, h1, h2, h3⟩; have HV := Aside0.mk (And.intro h1 (And.intro h2 (below_step HB1.out h3))); clear h1 h2 h3))
      go_ret2
      exact ⟨D, m, rfl, HV.out.1, HV.out.2.1, HV.out.2.2⟩
end Go.Proofs.Ytgdpabedlghiaaa.Scope
/- What a reader of bytes answers, in plain words: its state is the bytes that are left, or that it failed. -/
namespace Go.Proofs.Ytgdpabedlghiaaa.TlvPlain
open Go.Proofs.Ytgdpabedlghiaaa.Base Go.RowKit Go.Proofs.YtgdpabedlghiaaaW.PrintWords

def U8 (b : List Int) : Prop := ∀ x ∈ b, 0 ≤ x ∧ x ≤ 255
theorem U8.take {b : List Int} (h : U8 b) (n : Nat) : U8 (b.take n) := fun x hx => h x (List.mem_of_mem_take hx)
theorem U8.drop {b : List Int} (h : U8 b) (n : Nat) : U8 (b.drop n) := fun x hx => h x (List.mem_of_mem_drop hx)
theorem U8.nil : U8 [] := fun _ h => by cases h
theorem U8.append {a b : List Int} (h : U8 a) (k : U8 b) : U8 (a ++ b) := fun x hx => (List.mem_append.1 hx).elim (h x) (k x)
theorem U8.cons {x : Int} {b : List Int} (h : 0 ≤ x ∧ x ≤ 255) (k : U8 b) : U8 (x :: b) := fun y hy => (List.mem_cons.1 hy).elim (fun e => e ▸ h) (k y)
theorem U8.head {x : Int} {b : List Int} (h : U8 (x :: b)) : 0 ≤ x ∧ x ≤ 255 := h x (List.mem_cons_self ..)
theorem U8.tail {x : Int} {b : List Int} (h : U8 (x :: b)) : U8 b := fun y hy => h y (List.mem_cons_of_mem _ hy)

def takeO (st : Option (List Int)) (n : Int) : List Int × Option (List Int) :=
  match st with
  | some bs => if 0 ≤ n ∧ n ≤ bs.length then (bs.take n.toNat, some (bs.drop n.toNat)) else ([], none)
  | none => ([], none)
/-- The number of bytes, the highest first. -/
def valueB (l : List Int) : Int := l.foldl (fun n c => n * 256 + c) 0
def numO (st : Option (List Int)) : Int × Option (List Int) :=
  match st with
  | some (x :: r) =>
    if x > 8 then (0, none) else
    if (r.length : Int) < x then (0, none) else
    if 0 < x ∧ r.getD 0 0 = 0 then (0, none) else (valueB (r.take x.toNat), some (r.drop x.toNat))
  | _ => (0, none)
def countO (st : Option (List Int)) (most : Int) : Int × Option (List Int) :=
  if most < 0 ∨ (numO st).1 > most then (0, none) else numO st
def textO (st : Option (List Int)) (most : Int) : List Int × Option (List Int) := takeO (countO st most).2 (countO st most).1
def leftO (st : Option (List Int)) : Int := match st with | some bs => bs.length | none => 0

theorem valueB_snoc (l : List Int) (c : Int) : valueB (l ++ [c]) = valueB l * 256 + c := by simp [valueB]
theorem valueB_range {l : List Int} (h : U8 l) : 0 ≤ valueB l ∧ valueB l < 256 ^ l.length := by
  have H : ∀ n (l : List Int), l.length = n → U8 l → 0 ≤ valueB l ∧ valueB l < 256 ^ l.length := by
    intro n
    induction n with
    | zero =>
      intro l hl _
      have : l = [] := List.length_eq_zero_iff.1 hl
      subst this
      simp [valueB]
    | succ n ih =>
      intro l hl hu
      have hne : l ≠ [] := by intro e; rw [e] at hl; cases hl
      rw [← List.dropLast_concat_getLast hne, valueB_snoc]
      have h1 := ih l.dropLast (by simp [hl]) (fun x hx => hu x ((List.dropLast_sublist l).subset hx))
      have h2 := hu (l.getLast hne) (List.getLast_mem hne)
      rw [List.length_append, List.length_singleton, Int.pow_succ]
      omega
  exact H _ l rfl h
theorem valueB_u64 {l : List Int} (h : U8 l) (hl : l.length ≤ 8) : 0 ≤ valueB l ∧ valueB l ≤ 18446744073709551615 := by
  have := valueB_range h
  have key : ∀ n : Nat, n ≤ 8 → (256 : Int) ^ n ≤ 18446744073709551616 := by
    intro n hn
    have : n = 0 ∨ n = 1 ∨ n = 2 ∨ n = 3 ∨ n = 4 ∨ n = 5 ∨ n = 6 ∨ n = 7 ∨ n = 8 := by omega
    rcases this with rfl | rfl | rfl | rfl | rfl | rfl | rfl | rfl | rfl <;> decide +kernel
  have := key _ hl
  omega
/-- One byte more at the end: in words of 64 bits. -/
theorem or_byte (n c : Int) (hn0 : 0 ≤ n) (hn : n * 256 + 255 ≤ 18446744073709551615) (hc0 : 0 ≤ c) (hc : c ≤ 255) : Go.bits .or .u64 (n * 256) c = n * 256 + c := by
  obtain ⟨a, rfl⟩ := Int.eq_ofNat_of_zero_le hn0
  obtain ⟨b, rfl⟩ := Int.eq_ofNat_of_zero_le hc0
  have e1 : BitVec.ofInt IntKind.u64.bits ((a : Int) * 256) = BitVec.ofNat 64 (a * 256) := by
    rw [show ((a : Int) * 256) = ((a * 256 : Nat) : Int) from by omega]; rfl
  have e2 : BitVec.ofInt IntKind.u64.bits (b : Int) = BitVec.ofNat 64 b := rfl
  have e3 : (BitVec.ofNat 64 (a * 256) ||| BitVec.ofNat 64 b).toNat = a * 256 + b := by
    rw [BitVec.toNat_or, BitVec.toNat_ofNat, BitVec.toNat_ofNat, Nat.mod_eq_of_lt (by omega), Nat.mod_eq_of_lt (by omega)]
    have := Nat.shiftLeft_add_eq_or_of_lt (i := 8) (b := b) (show b < 2 ^ 8 by omega) a
    rw [Nat.shiftLeft_eq] at this
    exact this.symm
  unfold Go.bits
  simp only [e1, e2]
  show IntKind.u64.wrap (((BitVec.ofNat 64 (a * 256) ||| BitVec.ofNat 64 b : BitVec 64).toNat : Nat) : Int) = _
  rw [e3]
  exact IntWalk.u64_in _ (by omega)
theorem numO_range {st : Option (List Int)} (hu : ∀ bs, st = some bs → U8 bs) : 0 ≤ (numO st).1 ∧ (numO st).1 ≤ 18446744073709551615 := by
  unfold numO
  split
  · next x r =>
    split
    · simp
    · split
      · simp
      · split
        · simp
        · exact valueB_u64 ((hu _ rfl).tail.take _) (by rw [List.length_take]; omega)
  · simp
theorem numO_u8 {st : Option (List Int)} (hu : ∀ bs, st = some bs → U8 bs) : ∀ bs, (numO st).2 = some bs → U8 bs := by
  intro bs
  unfold numO
  split
  · next x r =>
    split
    · simp
    · split
      · simp
      · split
        · simp
        · intro h
          injection h with h
          subst h
          exact (hu _ rfl).tail.drop _
  · simp
theorem takeO_u8 {st : Option (List Int)} (hu : ∀ bs, st = some bs → U8 bs) (n : Int) : U8 (takeO st n).1 ∧ ∀ bs, (takeO st n).2 = some bs → U8 bs := by
  unfold takeO
  split
  · next bs =>
    split
    · refine ⟨(hu _ rfl).take _, fun b h => ?_⟩
      injection h with h
      subst h
      exact (hu _ rfl).drop _
    · exact ⟨U8.nil, by simp⟩
  · exact ⟨U8.nil, by simp⟩
theorem countO_u8 {st : Option (List Int)} (hu : ∀ bs, st = some bs → U8 bs) (m : Int) : ∀ bs, (countO st m).2 = some bs → U8 bs := by
  intro bs
  unfold countO
  split
  · simp
  · exact numO_u8 hu bs
end Go.Proofs.Ytgdpabedlghiaaa.TlvPlain
