/- Own and printed texts, laid together. -/
import Derived.Test.YtgdpabedlghiaaaSpHB
/- scope.counter.may and scope.Check walked (printed by gen_scopemay.py). -/
namespace Go.Proofs.Ytgdpabedlghiaaa.Scope
set_option linter.unusedVariables false
set_option linter.unusedSimpArgs false
open Go.RowKit Go.Proofs.YtgdpabedlghiaaaW.PrintWords Go.Proofs.YtgdpabedlghiaaaW.PrintLast Go.Proofs.YtgdpabedlghiaaaW.PrintMore Go.Proofs.Ytgdpabedlghiaaa.PZ
def namedB (op : Int) : Bool := decide (op = 2) || decide (op = 3) || decide (op = 4)
def fieldsB (op : Int) (nm : ByteArray) (fr to_ : Int) : Bool :=
  if op < 1 ∨ op > 8 then false else if namedB op = true ∧ Name.nameB nm = false then false else if namedB op = false ∧ nm.toList ≠ [] then false
  else if op = 5 then decide (fr ≥ 0) && (decide (fr ≤ to_) && decide (to_ ≤ 1099511627776)) else decide (fr = 0) && decide (to_ = 0)
theorem named_v (op : Int) : scope_named.f op = some (namedB op) := by
  unfold scope_named.f namedB
  by_cases h2 : op = 2
  · simp [h2]
  · by_cases h3 : op = 3
    · simp [h3]
    · by_cases h4 : op = 4 <;> simp [h2, h3, h4]
theorem fields_j2 (k : Nat) (b : Bool) (op : Int) (nm : ByteArray) (fr to_ : Int) (l : List S40) : scope_fields.j2 (k + 1) b op nm fr to_ l = some (if b = true then false else if op = 5 then decide (fr ≥ 0) && (decide (fr ≤ to_) && decide (to_ ≤ 1099511627776)) else decide (fr = 0) && decide (to_ = 0)) := by
  unfold scope_fields.j2
  cases b
  · by_cases h5 : op = 5
    · by_cases h1 : fr ≥ 0
      · by_cases h2 : fr ≤ to_ <;> simp [h5, h1, h2]
      · simp [h5, h1]
    · by_cases h1 : fr = 0
      · by_cases h2 : to_ = 0 <;> simp [h5, h1, h2]
      · simp [h5, h1]
  · simp
theorem fields_j1 (k : Nat) (b : Bool) (op : Int) (nm : ByteArray) (fr to_ : Int) (l : List S40) : scope_fields.j1 (k + 2) b op nm fr to_ l = some (if b = true then false else if namedB op = false ∧ nm.toList ≠ [] then false else if op = 5 then decide (fr ≥ 0) && (decide (fr ≤ to_) && decide (to_ ≤ 1099511627776)) else decide (fr = 0) && decide (to_ = 0)) := by
  rw [show k + 2 = (k + 1) + 1 from rfl, scope_fields.j1]
  cases b
  · rw [if_neg (by decide), named_v, Option.bind_some]
    cases hn : namedB op
    · rw [if_neg (by decide), fields_j2]
      by_cases hs : nm.toList = [] <;> simp [hs]
    · rw [if_pos rfl, fields_j2]
      simp
  · rw [if_pos rfl, fields_j2]
    simp
theorem fields_j0 (k : Nat) (b : Bool) (op : Int) (nm : ByteArray) (fr to_ : Int) (l : List S40) : scope_fields.j0 (k + 3) b op nm fr to_ l = some (if b = true then false else if namedB op = true ∧ Name.nameB nm = false then false else if namedB op = false ∧ nm.toList ≠ [] then false else if op = 5 then decide (fr ≥ 0) && (decide (fr ≤ to_) && decide (to_ ≤ 1099511627776)) else decide (fr = 0) && decide (to_ = 0)) := by
  rw [show k + 3 = (k + 2) + 1 from rfl, scope_fields.j0]
  cases b
  · rw [if_neg (by decide), named_v, Option.bind_some]
    cases hn : namedB op
    · rw [if_neg (by decide), fields_j1, hn]
      simp
    · rw [if_pos rfl]
      unfold inode_Name.f
      rw [Option.bind_some, fields_j1, hn]
      cases hm : Name.nameB nm <;> simp
  · rw [if_pos rfl]
    simp
theorem fields_v (k : Nat) (op : Int) (nm : ByteArray) (fr to_ : Int) (l : List S40) : scope_fields.f (k + 3) op nm fr to_ l = some (fieldsB op nm fr to_) := by
  unfold scope_fields.f fieldsB
  by_cases h1 : op < 1
  · rw [if_pos h1, fields_j0, if_pos rfl, if_pos (Or.inl h1)]
  · rw [if_neg h1, fields_j0]
    by_cases h8 : op > 8
    · rw [decide_eq_true h8, if_pos rfl, if_pos (Or.inr h8)]
    · rw [decide_eq_false h8, if_neg (by decide), if_neg (by omega : ¬ (op < 1 ∨ op > 8))]
def leastB (op : Int) : Int := if op = 8 then 1 else if op = 6 then 2 else if op = 7 then 2 else 0
def mostB (op : Int) : Int := if op = 8 then 1 else if op = 6 then 24 else if op = 7 then 24 else 0
theorem kids_v (op : Int) : scope_kids.f op = some (leastB op, mostB op) := by
  unfold scope_kids.f leastB mostB
  by_cases h8 : op = 8
  · simp [h8]
  · by_cases h6 : op = 6
    · simp [h6]
    · by_cases h7 : op = 7 <;> simp [h8, h6, h7]
mutual
/-- May a scope be, so deep, with so many nodes left? And how many are left. -/
def mayS : S40 → Int → Int → Bool × Int
  | ⟨op, nm, fr, to_, kids⟩, deep, left =>
    if wrap64 (left - 1) < 0 then (false, wrap64 (left - 1)) else if deep = 0 then (false, wrap64 (left - 1)) else if fieldsB op nm fr to_ = false then (false, wrap64 (left - 1))
    else if (kids.length : Int) < leastB op then (false, wrap64 (left - 1)) else if mostB op < (kids.length : Int) then (false, wrap64 (left - 1))
    else (!(mayAny kids (wrap64 (deep - 1)) (wrap64 (left - 1))).1, (mayAny kids (wrap64 (deep - 1)) (wrap64 (left - 1))).2)
def mayAny : List S40 → Int → Int → Bool × Int
  | [], _, l => (false, l)
  | k :: ks, d, l => if (mayS k d l).1 = false then (true, (mayS k d l).2) else mayAny ks d (mayS k d l).2
end
theorem mayAny_run (d : Int) : ∀ (ks : List S40) (l : Int), runAny (fun k l => (!(mayS k d l).1, (mayS k d l).2)) ks l = mayAny ks d l
  | [], l => by simp [runAny, mayAny]
  | k :: ks, l => by
    rw [runAny, mayAny]
    cases h : (mayS k d l).1
    · simp
    · simp [mayAny_run d ks]
/-- All but one block stands. -/
def Kp (g : Nat) (w w' : World) : Prop := Below g w w' ∧ ∀ k, k ≠ g → k < w.heap.size → w'.heap[k]? = w.heap[k]?
theorem Kp.refl (g : Nat) (w : World) : Kp g w w := ⟨Below.refl _ _, fun _ _ _ => rfl⟩
theorem Kp.trans {g : Nat} {a b c : World} (h : Kp g a b) (k : Kp g b c) : Kp g a c := ⟨h.1.trans k.1, fun i hi hl => (k.2 i hi (Nat.lt_of_lt_of_le hl h.1.size)).trans (h.2 i hi hl)⟩
theorem Kp.of_below {g : Nat} {a b : World} (h : Below a.heap.size a b) (hg : g ≤ a.heap.size) : Kp g a b := ⟨h.mono hg, fun k _ hl => h.block k hl⟩
theorem Kp.set (g : Nat) (w : World) (v : Value) : Kp g w (w.setCell ⟨g, 0, none⟩ v) :=
  ⟨⟨rfl, rfl, rfl, by simp [World.setCell], fun k hk => Below.heap_setCell w ⟨g, 0, none⟩ v k (Nat.ne_of_lt hk)⟩, fun k hk _ => Below.heap_setCell w ⟨g, 0, none⟩ v k hk⟩
theorem Blk.kp {g k T : Nat} {w w' : World} {cs : Array Value} (h : Blk w k T cs) (hk : Kp g w w') (hne : k ≠ g) : Blk w' k T cs := (hk.2 k hne (blk_lt h)).trans h
theorem Kp.base {g b : Nat} {w0 w w' : World} (h : Kp g w w') (hb : Below b w0 w) (hg : b ≤ g) : Below b w0 w' := hb.trans (h.1.mono hg)
/-- What is known of may at a scope. -/
def MayC (x : S40) : Prop := ∀ (gc : Nat) (deep left : Int) A c w0 w, Kd.C k40 w0 A x.f4.length x.f4 → x.f4.length ≤ c → w0.heap.size ≤ gc → Below w0.heap.size w0 w → Blk w gc 94 #[.int .i64 left] →
  Calls Try.prog 70 #[.pointer (some ⟨gc, 0, none⟩), .agg #[.int .i64 x.f0, .string x.f1, .int .i64 x.f2, .int .i64 x.f3, .slice A x.f4.length c], .int .i64 deep] w fun e w' => e = .returned (.bool (mayS x deep left).1) ∧ Blk w' gc 94 #[.int .i64 (mayS x deep left).2] ∧ Kp gc w w'
set_option maxHeartbeats 1000000 in
set_option maxRecDepth 100000 in
theorem mayk_c {x : S40} (hm : MayC x) (gc g0 g1 : Nat) (deep left : Int) (A : Option Addr) (c : Nat) (w0 w : World) (hr : Kd.C k40 w0 A x.f4.length x.f4) (hc : x.f4.length ≤ c) (hg : w0.heap.size ≤ gc) (hb : Below w0.heap.size w0 w) (hL : Blk w gc 94 #[.int .i64 left])
    (h0 : Blk w g0 92 #[.pointer (some ⟨gc, 0, none⟩)]) (h1 : Blk w g1 3 #[.int .i64 deep]) :
    Calls Try.prog 114 #[.agg #[.int .i64 x.f0, .string x.f1, .int .i64 x.f2, .int .i64 x.f3, .slice A x.f4.length c], .pointer (some ⟨g0, 0, none⟩), .pointer (some ⟨g1, 0, none⟩)] w fun e w' => e = .returned (.bool (!(mayS x (wrap64 (deep - 1)) left).1)) ∧ Blk w' gc 94 #[.int .i64 (mayS x (wrap64 (deep - 1)) left).2] ∧ Kp gc w w' := by
  have HK := Aside0.mk (Kp.of_below (g := gc) (below_alloc (Below.refl w.heap.size w) (.cells #[.int .i64 x.f0, .string x.f1, .int .i64 x.f2, .int .i64 x.f3, .slice A x.f4.length c] 40)) (Nat.le_of_lt hL.lt))
  have HC := Aside0.mk (hm gc (wrap64 (deep - 1)) left A c w0 _ hr hc hg (below_alloc hb (.cells #[.int .i64 x.f0, .string x.f1, .int .i64 x.f2, .int .i64 x.f3, .slice A x.f4.length c] 40)) (hL.alloc _))
  have d0 := (h0.alloc (.cells #[.int .i64 x.f0, .string x.f1, .int .i64 x.f2, .int .i64 x.f3, .slice A x.f4.length c] 40)).cell 0
  have d1 := (h1.alloc (.cells #[.int .i64 x.f0, .string x.f1, .int .i64 x.f2, .int .i64 x.f3, .slice A x.f4.length c] 40)).cell 0
  simp only [List.getElem?_toArray, List.getElem?_cons_zero] at d0 d1
  have hu40 := Try.underlying40
  obtain ⟨r, hr_⟩ : ∃ r, mayS x (wrap64 (deep - 1)) left = r := ⟨_, rfl⟩
  rw [hr_] at HC ⊢
  obtain ⟨b, l2⟩ := r
  clear hm hr hc hg hb hL h0 h1 hr_
  dsimp only at HC ⊢
  go_enter Try.func114, Try.ntmps114
  go_wp2_with (go_at_call 70; refine HC.out.mono ?_; rintro e w' ⟨rfl, h1, h2⟩; have H1 := Aside0.mk h1; have H2 := Aside0.mk (HK.out.trans h2); clear h1 h2)
  go_ret
  exact ⟨rfl, H1.out, H2.out⟩
theorem blk1 (w : World) (a o : Obj) : ((w.alloc a).alloc o).heap[w.heap.size]? = some a := blk_alloc (blk_new _ _) _
set_option maxHeartbeats 4000000 in
set_option maxRecDepth 100000 in
theorem may_n : ∀ (n : Nat) (x : S40), SizeOf.sizeOf x < n → MayC x := by
  intro n
  induction n with
  | zero => intro x h; exact absurd h (by omega)
  | succ n ih =>
  intro x hn gc deep left A c w0 w hr hc hg hb hL
  have HIH := Aside0.mk (fun k (hk : k ∈ x.f4) => ih k (by have := kid_lt hk; omega))
  have HR := Aside0.mk hr
  have HC := Aside0.mk hc
  have HG := Aside0.mk hg
  have HV := Aside0.mk (show mayS x deep left = if wrap64 (left - 1) < 0 then (false, wrap64 (left - 1)) else if deep = 0 then (false, wrap64 (left - 1)) else if fieldsB x.f0 x.f1 x.f2 x.f3 = false then (false, wrap64 (left - 1))
      else if (x.f4.length : Int) < leastB x.f0 then (false, wrap64 (left - 1)) else if mostB x.f0 < (x.f4.length : Int) then (false, wrap64 (left - 1))
      else (!(mayAny x.f4 (wrap64 (deep - 1)) (wrap64 (left - 1))).1, (mayAny x.f4 (wrap64 (deep - 1)) (wrap64 (left - 1))).2) by
    obtain ⟨op, nm, fr, to_, kids⟩ := x
    simp only [mayS])
  have HKV := Aside0.mk (kids_v x.f0)
  have HFV := Aside0.mk (fields_v 0 x.f0 x.f1 x.f2 x.f3 x.f4)
  obtain ⟨lo, hlo⟩ : ∃ v, leastB x.f0 = v := ⟨_, rfl⟩
  obtain ⟨hi, hhi⟩ : ∃ v, mostB x.f0 = v := ⟨_, rfl⟩
  obtain ⟨fb, hfb⟩ : ∃ v, fieldsB x.f0 x.f1 x.f2 x.f3 = v := ⟨_, rfl⟩
  obtain ⟨l1, hl1⟩ : ∃ v, wrap64 (left - 1) = v := ⟨_, rfl⟩
  rw [hlo, hhi] at HKV
  rw [hfb] at HFV
  rw [hlo, hhi, hfb, hl1] at HV
  have hne := Nat.ne_of_lt hL.lt
  have H0 := Aside0.mk (show Blk (((w.alloc (.cells #[.pointer (some ⟨gc, 0, none⟩)] 92)).alloc (.cells #[.int .i64 x.f0, .string x.f1, .int .i64 x.f2, .int .i64 x.f3, .slice A x.f4.length c] 40)).alloc (.cells #[.int .i64 deep] 3)) w.heap.size 92 #[.pointer (some ⟨gc, 0, none⟩)] from blk_alloc (blk1 _ _ _) _)
  have H1 := Aside0.mk (show Blk (((w.alloc (.cells #[.pointer (some ⟨gc, 0, none⟩)] 92)).alloc (.cells #[.int .i64 x.f0, .string x.f1, .int .i64 x.f2, .int .i64 x.f3, .slice A x.f4.length c] 40)).alloc (.cells #[.int .i64 deep] 3)) (w.heap.size + 1) 40 #[.int .i64 x.f0, .string x.f1, .int .i64 x.f2, .int .i64 x.f3, .slice A x.f4.length c] from blk_alloc (blk2 _ _ _) _)
  have H2 := Aside0.mk (show Blk (((w.alloc (.cells #[.pointer (some ⟨gc, 0, none⟩)] 92)).alloc (.cells #[.int .i64 x.f0, .string x.f1, .int .i64 x.f2, .int .i64 x.f3, .slice A x.f4.length c] 40)).alloc (.cells #[.int .i64 deep] 3)) (w.heap.size + 1 + 1) 3 #[.int .i64 deep] from blk3 _ _ _ _)
  have HLL := Aside0.mk (show Blk (((w.alloc (.cells #[.pointer (some ⟨gc, 0, none⟩)] 92)).alloc (.cells #[.int .i64 x.f0, .string x.f1, .int .i64 x.f2, .int .i64 x.f3, .slice A x.f4.length c] 40)).alloc (.cells #[.int .i64 deep] 3)) gc 94 #[.int .i64 left] from ((hL.alloc _).alloc _).alloc _)
  have HBB := Aside0.mk (show Below w0.heap.size w0 (((w.alloc (.cells #[.pointer (some ⟨gc, 0, none⟩)] 92)).alloc (.cells #[.int .i64 x.f0, .string x.f1, .int .i64 x.f2, .int .i64 x.f3, .slice A x.f4.length c] 40)).alloc (.cells #[.int .i64 deep] 3)) from below_alloc (below_alloc (below_alloc hb _) _) _)
  have HKP := Aside0.mk (show Kp gc w (((w.alloc (.cells #[.pointer (some ⟨gc, 0, none⟩)] 92)).alloc (.cells #[.int .i64 x.f0, .string x.f1, .int .i64 x.f2, .int .i64 x.f3, .slice A x.f4.length c] 40)).alloc (.cells #[.int .i64 deep] 3)) from Kp.of_below (below_alloc (below_alloc (below_alloc (Below.refl _ _) _) _) _) (Nat.le_of_lt hL.lt))
  have HNE := Aside0.mk (show w.heap.size ≠ gc ∧ w.heap.size + 1 ≠ gc ∧ w.heap.size + 1 + 1 ≠ gc by have := hL.lt; omega)
  have hcz := HLL.out.cell 0
  have hfz := blk_frozen HLL.out 0
  have d0 := H0.out.cell 0
  simp only [List.getElem?_toArray, List.getElem?_cons_zero] at hcz d0
  obtain ⟨r, hrr⟩ : ∃ r, mayS x deep left = r := ⟨_, rfl⟩
  rw [hrr] at HV ⊢
  clear hr hc hn ih hg hb hL hlo hhi hfb hrr hne
  have hu40 := Try.underlying40
  have hu38 := Try.underlying38
  have hu94 := Try.underlying94
  obtain ⟨g, hg⟩ : ∃ g, w.heap.size = g := ⟨_, rfl⟩
  go_enter Try.func70, Try.ntmps70
  clear hg
  go_upto_region 2 with (fail)
  obtain ⟨V, hV⟩ : ∃ V, (((w.alloc (.cells #[.pointer (some ⟨gc, 0, none⟩)] 92)).alloc (.cells #[.int .i64 x.f0, .string x.f1, .int .i64 x.f2, .int .i64 x.f3, .slice A x.f4.length c] 40)).alloc (.cells #[.int .i64 deep] 3)) = V := ⟨_, rfl⟩
  rw [hV] at H0 H1 H2 HLL HBB HKP hcz hfz d0 ⊢
  clear hV hcz hfz d0
  rw [hl1]
  obtain ⟨V1, hV⟩ : ∃ V1, V.setCell ⟨gc, 0, none⟩ (.int .i64 l1) = V1 := ⟨_, rfl⟩
  have HK1 := Aside0.mk (show Kp gc V V1 by rw [← hV]; exact Kp.set gc V _)
  have HL1 := Aside0.mk (show Blk V1 gc 94 #[.int .i64 l1] by rw [← hV]; exact blk_set HLL.out 0 _)
  rw [hV]
  have q0 := (H1.out.kp HK1.out HNE.out.2.1).cell 0
  simp only [List.getElem?_toArray, List.getElem?_cons_zero] at q0
  clear hV
  go_upto_region 3 with (go_at_call 112; refine (scope_kids.calls x.f0 lo hi _ HKV.out).mono ?_; rintro e w' ⟨rfl, hd⟩; have HD := Aside0.mk hd.below; clear hd)
  rename_i V2
  clear q0
  have hn_ := HNE.out
  have HK2 := Aside0.mk ((HKP.out.trans HK1.out).trans (Kp.of_below HD.out (Nat.le_of_lt HL1.out.lt)))
  have HL2 := Aside0.mk (HL1.out.below HD.out)
  have HB2 := Aside0.mk ((HK1.out.trans (Kp.of_below HD.out (Nat.le_of_lt HL1.out.lt))).base HBB.out HG.out)
  have HA0 := Aside0.mk (Blk.below (H0.out.kp HK1.out hn_.1) HD.out)
  have HA1 := Aside0.mk (Blk.below (H1.out.kp HK1.out hn_.2.1) HD.out)
  have HA2 := Aside0.mk (Blk.below (H2.out.kp HK1.out hn_.2.2) HD.out)
  clear hn_ HD HK1 HL1 H0 H1 H2 HLL HKP HBB HKV
  have d0 := HA0.out.cell 0
  have q0 := HA1.out.cell 0
  have q1 := HA1.out.cell 1
  have q2 := HA1.out.cell 2
  have q3 := HA1.out.cell 3
  have q4 := HA1.out.cell 4
  have d2 := HA2.out.cell 0
  have l0 := HL2.out.cell 0
  simp only [List.getElem?_toArray, List.getElem?_cons_zero, List.getElem?_cons_succ] at d0 q0 q1 q2 q3 q4 d2 l0
  have HV1 := HV.out
  clear HV
  by_cases c1 : l1 < 0
  · have z1 : decide (l1 < 0) = true := decide_eq_true c1
    rw [if_pos c1] at HV1
    subst HV1
    clear c1
    go_wp2
    go_ret
    exact ⟨rfl, HL2.out, HK2.out⟩
  have z1 : decide (l1 < 0) = false := decide_eq_false c1
  rw [if_neg c1] at HV1
  clear c1
  by_cases c2 : deep = 0
  · have z2 : (deep == 0) = true := beq_iff_eq.mpr c2
    rw [if_pos c2] at HV1
    subst HV1
    clear c2
    go_wp2
    go_ret
    exact ⟨rfl, HL2.out, HK2.out⟩
  have z2 : (deep == 0) = false := beq_eq_false_iff_ne.mpr c2
  rw [if_neg c2] at HV1
  clear c2
  cases fb with
  | false =>
    rw [if_pos rfl] at HV1
    subst HV1
    go_wp2_with (go_at_call 113; refine (scope_fields.calls (0 + 3) x.f0 x.f1 x.f2 x.f3 A c x.f4 false _ (Kd.C_below HR.out HB2.out) HC.out HFV.out).mono ?_; rintro e w' ⟨rfl, hb⟩; have HL3 := Aside0.mk (HL2.out.below hb); have HK3 := Aside0.mk (HK2.out.trans (Kp.of_below hb (Nat.le_of_lt HL2.out.lt))); have HB3 := Aside0.mk (below_step HB2.out hb); have e0 := HA1.out.below hb; have e4 := e0.cell 4; have e2 := HA2.out.below hb; have HE0 := Aside0.mk (HA0.out.below hb); have HE2 := Aside0.mk e2; simp only [List.getElem?_toArray, List.getElem?_cons_zero, List.getElem?_cons_succ] at e4; clear e0 e2 hb)
    go_ret
    exact ⟨rfl, HL3.out, HK3.out⟩
  | true =>
    rw [if_neg (by decide)] at HV1
    by_cases c4 : (x.f4.length : Int) < lo
    · have z4 : decide ((x.f4.length : Int) < lo) = true := decide_eq_true c4
      rw [if_pos c4] at HV1
      subst HV1
      clear c4
      go_wp2_with (go_at_call 113; refine (scope_fields.calls (0 + 3) x.f0 x.f1 x.f2 x.f3 A c x.f4 true _ (Kd.C_below HR.out HB2.out) HC.out HFV.out).mono ?_; rintro e w' ⟨rfl, hb⟩; have HL3 := Aside0.mk (HL2.out.below hb); have HK3 := Aside0.mk (HK2.out.trans (Kp.of_below hb (Nat.le_of_lt HL2.out.lt))); have HB3 := Aside0.mk (below_step HB2.out hb); have e0 := HA1.out.below hb; have e4 := e0.cell 4; have e2 := HA2.out.below hb; have HE0 := Aside0.mk (HA0.out.below hb); have HE2 := Aside0.mk e2; simp only [List.getElem?_toArray, List.getElem?_cons_zero, List.getElem?_cons_succ] at e4; clear e0 e2 hb)
      go_ret
      exact ⟨rfl, HL3.out, HK3.out⟩
    have z4 : decide ((x.f4.length : Int) < lo) = false := decide_eq_false c4
    rw [if_neg c4] at HV1
    clear c4
    by_cases c5 : hi < (x.f4.length : Int)
    · have z5 : decide (hi < (x.f4.length : Int)) = true := decide_eq_true c5
      rw [if_pos c5] at HV1
      subst HV1
      clear c5
      go_wp2_with (go_at_call 113; refine (scope_fields.calls (0 + 3) x.f0 x.f1 x.f2 x.f3 A c x.f4 true _ (Kd.C_below HR.out HB2.out) HC.out HFV.out).mono ?_; rintro e w' ⟨rfl, hb⟩; have HL3 := Aside0.mk (HL2.out.below hb); have HK3 := Aside0.mk (HK2.out.trans (Kp.of_below hb (Nat.le_of_lt HL2.out.lt))); have HB3 := Aside0.mk (below_step HB2.out hb); have e0 := HA1.out.below hb; have e4 := e0.cell 4; have e2 := HA2.out.below hb; have HE0 := Aside0.mk (HA0.out.below hb); have HE2 := Aside0.mk e2; simp only [List.getElem?_toArray, List.getElem?_cons_zero, List.getElem?_cons_succ] at e4; clear e0 e2 hb)
      go_ret
      exact ⟨rfl, HL3.out, HK3.out⟩
    have z5 : decide (hi < (x.f4.length : Int)) = false := decide_eq_false c5
    rw [if_neg c5] at HV1
    clear c5
    have HAY := Aside0.mk (fun W (h0 : Blk W gc 94 #[.int .i64 l1] ∧ Blk W w.heap.size 92 #[.pointer (some ⟨gc, 0, none⟩)] ∧ Blk W (w.heap.size + 1 + 1) 3 #[.int .i64 deep] ∧ Below w0.heap.size w0 W ∧ Kp gc w W) => any_may w.heap.size (w.heap.size + 1 + 1) (fun k l => (!(mayS k (wrap64 (deep - 1)) l).1, (mayS k (wrap64 (deep - 1)) l).2)) (fun l W => Blk W gc 94 #[.int .i64 l] ∧ Blk W w.heap.size 92 #[.pointer (some ⟨gc, 0, none⟩)] ∧ Blk W (w.heap.size + 1 + 1) 3 #[.int .i64 deep] ∧ Below w0.heap.size w0 W ∧ Kp gc w W) A x.f4 c w0 HR.out (fun _ _ h => h.2.2.2.1) (by
      intro k hk l W A4 c4 hi_ h1 h2
      refine (mayk_c (HIH.out k hk) gc w.heap.size (w.heap.size + 1 + 1) deep l A4 c4 w0 W h1 h2 HG.out hi_.2.2.2.1 hi_.1 hi_.2.1 hi_.2.2.1).mono ?_
      rintro e w' ⟨rfl, g1, g2⟩
      exact ⟨rfl, g1, hi_.2.1.kp g2 HNE.out.1, hi_.2.2.1.kp g2 HNE.out.2.2, g2.base hi_.2.2.2.1 HG.out, hi_.2.2.2.2.trans g2⟩) l1 W h0)
    rw [mayAny_run] at HAY
    obtain ⟨q, hq⟩ : ∃ q, mayAny x.f4 (wrap64 (deep - 1)) l1 = q := ⟨_, rfl⟩
    rw [hq] at HAY HV1
    obtain ⟨qb, ql⟩ := q
    dsimp only at HAY HV1
    subst HV1
    clear hq HIH
    go_wp2_with (first
      | (go_at_call 113; refine (scope_fields.calls (0 + 3) x.f0 x.f1 x.f2 x.f3 A c x.f4 true _ (Kd.C_below HR.out HB2.out) HC.out HFV.out).mono ?_; rintro e w' ⟨rfl, hb⟩; have HL3 := Aside0.mk (HL2.out.below hb); have HK3 := Aside0.mk (HK2.out.trans (Kp.of_below hb (Nat.le_of_lt HL2.out.lt))); have HB3 := Aside0.mk (below_step HB2.out hb); have e0 := HA1.out.below hb; have e4 := e0.cell 4; have e2 := HA2.out.below hb; have HE0 := Aside0.mk (HA0.out.below hb); have HE2 := Aside0.mk e2; simp only [List.getElem?_toArray, List.getElem?_cons_zero, List.getElem?_cons_succ] at e4; clear e0 e2 hb)
      | (go_at_call 72; refine (HAY.out _ ⟨HL3.out, HE0.out, HE2.out, HB3.out, HK3.out⟩).mono ?_; rintro e w' ⟨rfl, g1, _, _, _, g5⟩; have HL4 := Aside0.mk g1; have HK4 := Aside0.mk g5; clear g1 g5))
    go_ret
    exact ⟨rfl, HL4.out, HK4.out⟩
end Go.Proofs.Ytgdpabedlghiaaa.Scope
/- scope.Match and scope.Check, in the printed functions' form. -/
namespace Go.Proofs.Ytgdpabedlghiaaa.Scope
set_option linter.unusedVariables false
set_option linter.unusedSimpArgs false
open Go.RowKit Go.Proofs.YtgdpabedlghiaaaW.PrintWords Go.Proofs.YtgdpabedlghiaaaW.PrintLast Go.Proofs.YtgdpabedlghiaaaW.PrintMore Go.Proofs.Ytgdpabedlghiaaa.PZ
/-- May a scope be? -/
def mayB (x : S40) : Bool := (mayS x 8 24).1
set_option maxHeartbeats 2000000 in
set_option maxRecDepth 100000 in
theorem check_c (x : S40) (A : Option Addr) (c : Nat) (w : World) (hr : Kd.C k40 w A x.f4.length x.f4) (hc : x.f4.length ≤ c) :
    Calls Try.prog 28 #[.agg #[.int .i64 x.f0, .string x.f1, .int .i64 x.f2, .int .i64 x.f3, .slice A x.f4.length c]] w fun e w' => e = .returned (.int .i64 (if mayB x = true then 0 else 1)) ∧ Below w.heap.size w w' := by
  have HL := Aside0.mk (show Blk ((w.alloc (.cells #[.int .i64 x.f0, .string x.f1, .int .i64 x.f2, .int .i64 x.f3, .slice A x.f4.length c] 40)).alloc (.cells #[.int .i64 24] 94)) (w.heap.size + 1) 94 #[.int .i64 24] from blk2 _ _ _)
  have HB := Aside0.mk (show Below w.heap.size w ((w.alloc (.cells #[.int .i64 x.f0, .string x.f1, .int .i64 x.f2, .int .i64 x.f3, .slice A x.f4.length c] 40)).alloc (.cells #[.int .i64 24] 94)) from below_alloc (below_alloc (Below.refl _ _) _) _)
  have HM := Aside0.mk (may_n (SizeOf.sizeOf x + 1) x (Nat.lt_succ_self _) (w.heap.size + 1) 8 24 A c w _ hr hc (Nat.le_succ _) HB.out HL.out)
  have hu40 := Try.underlying40
  have hu94 := Try.underlying94
  unfold mayB
  obtain ⟨r, hr_⟩ : ∃ r, mayS x 8 24 = r := ⟨_, rfl⟩
  rw [hr_] at HM ⊢
  clear hr hc hr_ HL
  obtain ⟨b, l⟩ := r
  dsimp only at HM ⊢
  cases b
  all_goals
    go_enter Try.func28, Try.ntmps28
    go_wp2_with (go_at_call 70; refine HM.out.mono ?_; rintro e w' ⟨rfl, _, hk⟩; have HF := Aside0.mk (hk.base HB.out (Nat.le_succ _)); clear hk)
    go_ret
    exact ⟨rfl, HF.out⟩
end Go.Proofs.Ytgdpabedlghiaaa.Scope
namespace Go.Proofs.Ytgdpabedlghiaaa.PZ
set_option linter.unusedVariables false
open Go.RowKit Go.Proofs.YtgdpabedlghiaaaW.PrintWords
def scope_Check.f (a0_0 : Int) (a0_1 : ByteArray) (a0_2 : Int) (a0_3 : Int) (l0_4 : List S40) : Option Int := some (if Scope.mayB ⟨a0_0, a0_1, a0_2, a0_3, l0_4⟩ = true then 0 else 1)
theorem scope_Check.calls (a0_0 : Int) (a0_1 : ByteArray) (a0_2 : Int) (a0_3 : Int) (A0_4 : Option Addr) (c0_4 : Nat) (l0_4 : List S40) (r : Int) (w : World) (hr0_4 : Kd.C k40 w A0_4 l0_4.length l0_4) (hc0_4 : l0_4.length ≤ c0_4) (h : scope_Check.f a0_0 a0_1 a0_2 a0_3 l0_4 = some r) :
    Calls Try.prog 28 #[.agg #[.int .i64 a0_0, .string a0_1, .int .i64 a0_2, .int .i64 a0_3, .slice A0_4 l0_4.length c0_4]] w fun e w' => e = .returned (.int .i64 r) ∧ Below w.heap.size w w' := by
  obtain rfl := Option.some.inj h
  exact Scope.check_c ⟨a0_0, a0_1, a0_2, a0_3, l0_4⟩ A0_4 c0_4 w hr0_4 hc0_4
def scope_Match.f (a0_0 : Int) (a0_1 : ByteArray) (a0_2 : Int) (a0_3 : Int) (l0_4 : List S40) (a1_0 a1_1 a1_2 a1_3 : ByteArray) (a1_4 a1_5 : Int) : Option Bool := some (Scope.matchB a1_1 a1_2 a1_3 a1_4 ⟨a0_0, a0_1, a0_2, a0_3, l0_4⟩)
theorem scope_Match.calls (a0_0 : Int) (a0_1 : ByteArray) (a0_2 : Int) (a0_3 : Int) (A0_4 : Option Addr) (c0_4 : Nat) (l0_4 : List S40) (a1_0 : ByteArray) (a1_1 : ByteArray) (a1_2 : ByteArray) (a1_3 : ByteArray) (a1_4 : Int) (a1_5 : Int) (r : Bool) (w : World) (hr0_4 : Kd.C k40 w A0_4 l0_4.length l0_4) (hc0_4 : l0_4.length ≤ c0_4) (h : scope_Match.f a0_0 a0_1 a0_2 a0_3 l0_4 a1_0 a1_1 a1_2 a1_3 a1_4 a1_5 = some r) :
    Calls Try.prog 29 #[.agg #[.int .i64 a0_0, .string a0_1, .int .i64 a0_2, .int .i64 a0_3, .slice A0_4 l0_4.length c0_4], .agg #[.string a1_0, .string a1_1, .string a1_2, .string a1_3, .int .i64 a1_4, .int .i64 a1_5]] w fun e w' => e = .returned (.bool r) ∧ Below w.heap.size w w' := by
  obtain rfl := Option.some.inj h
  exact Scope.match_n a1_0 a1_1 a1_2 a1_3 a1_4 a1_5 _ ⟨a0_0, a0_1, a0_2, a0_3, l0_4⟩ (Nat.lt_succ_self _) A0_4 c0_4 w hr0_4 hc0_4
end Go.Proofs.Ytgdpabedlghiaaa.PZ
-- printed for this claim by a program (pall.sh)
-- mended by fixpz.py
namespace Go.Proofs.Ytgdpabedlghiaaa.PZ
open Go.RowKit Go.Proofs.YtgdpabedlghiaaaW.PrintWords Go.Proofs.YtgdpabedlghiaaaW.PrintLast Go.Proofs.YtgdpabedlghiaaaW.PrintMore
attribute [local go_sem] max2_int min2_int max_two min_two max_three min_three max_four min_four   -- for this text's walks alone
set_option linter.unusedVariables false
set_option linter.unusedSimpArgs false

/-! ### hanaperref20_small: function 66 -/
mutual
def hanaperref20_small.j0 : Nat → Int → Int → Bool → Int → ByteArray → Int → Int → List (S40) → Option (Int)
 | 0, _, _, _, _, _, _, _, _ => none
 | k + 1, x1, x2, x26, x102000, x102001, x102002, x102003, x102004 => if x26 = true then (some (-1)) else (hanaperref20_small.l0 k (wrap64 (x1 - 1)) x2 0 x102000 x102001 x102002 x102003 x102004)
def hanaperref20_small.l0 : Nat → Int → Int → Int → Int → ByteArray → Int → Int → List (S40) → Option (Int)
 | 0, _, _, _, _, _, _, _, _ => none
 | k + 1, x1, x2, x7, x102000, x102001, x102002, x102003, x102004 => if x7 < (x102004.length : Int) then (if x1 ≥ 0 then (if 0 ≤ x7 then ((hanaperref20_small.f k ((rd_T40 x102004 x7).f0) ((rd_T40 x102004 x7).f1) ((rd_T40 x102004 x7).f2) ((rd_T40 x102004 x7).f3) ((rd_T40 x102004 x7).f4) x1 (wrap64 (x2 - 1))).bind fun t103 => (hanaperref20_small.l0 k t103 x2 (wrap64 (x7 + 1)) x102000 x102001 x102002 x102003 x102004)) else (none)) else (some x1)) else (some x1)
def hanaperref20_small.f : Nat → Int → ByteArray → Int → Int → List (S40) → Int → Int → Option (Int)
 | 0, _, _, _, _, _, _, _ => none
 | k + 1, a0_0, a0_1, a0_2, a0_3, l0_4, a1, a2 => if a1 < 1 then (hanaperref20_small.j0 k a1 a2 true a0_0 a0_1 a0_2 a0_3 l0_4) else (if a2 < 1 then (hanaperref20_small.j0 k a1 a2 true a0_0 a0_1 a0_2 a0_3 l0_4) else (if (l0_4.length : Int) > a1 then (hanaperref20_small.j0 k a1 a2 true a0_0 a0_1 a0_2 a0_3 l0_4) else (hanaperref20_small.j0 k a1 a2 (decide ((a0_1.size : Int) > 100)) a0_0 a0_1 a0_2 a0_3 l0_4)))
end
set_option maxHeartbeats 8000000 in
set_option maxRecDepth 100000 in
theorem hanaperref20_small.calls (k : Nat) : ∀ (a0_0 : Int) (a0_1 : ByteArray) (a0_2 : Int) (a0_3 : Int) (A0_4 : Option Addr) (c0_4 : Nat) (l0_4 : List (S40)) (a1 : Int) (a2 : Int) (r : Int) (w : World) (hr0_4 : Kd.C k40 w A0_4 l0_4.length l0_4) (hc0_4 : l0_4.length ≤ c0_4) (h : hanaperref20_small.f k a0_0 a0_1 a0_2 a0_3 l0_4 a1 a2 = some r),
  Calls Try.prog 66 #[.agg #[.int .i64 a0_0, .string a0_1, .int .i64 a0_2, .int .i64 a0_3, .slice A0_4 l0_4.length c0_4], .int .i64 a1, .int .i64 a2] w fun e w' => e = .returned (.int .i64 r) ∧ Below w.heap.size w w' := by
 induction k using Nat.strongRecOn with
 | _ k ih =>
 intro a0_0 a0_1 a0_2 a0_3 A0_4 c0_4 l0_4 a1 a2 r w hr0_4 hc0_4 h
 cases k with
 | zero => exact absurd h (by simp [hanaperref20_small.f])
 | succ k =>
 simp only [hanaperref20_small.f] at h
 have hu40 := Try.underlying40
 have HR0_4 := Aside0.mk hr0_4
 have HC0_4 := Aside0.mk hc0_4
 clear hr0_4 hc0_4
 have HB := Aside0.mk (Below.refl w.heap.size w)
 have H : (if a1 < 1 then (hanaperref20_small.j0 k a1 a2 true a0_0 a0_1 a0_2 a0_3 l0_4) else (if a2 < 1 then (hanaperref20_small.j0 k a1 a2 true a0_0 a0_1 a0_2 a0_3 l0_4) else (if (l0_4.length : Int) > a1 then (hanaperref20_small.j0 k a1 a2 true a0_0 a0_1 a0_2 a0_3 l0_4) else (hanaperref20_small.j0 k a1 a2 (decide ((a0_1.size : Int) > 100)) a0_0 a0_1 a0_2 a0_3 l0_4)))) = some r := h
 clear h
 have HC4 := Aside0.mk H
 clear H
 go_enter Try.func66, Try.ntmps66
 go_upto_region 1 with (first | ((with_reducible refine gate_dst (N := 3) rfl ?_); (try (refine gate_guard (by rfl) ?_; dsimp only)); refine box_event ?hg (N := 3) ?hd (cs := #[.int .i64 a0_0, .string a0_1, .int .i64 a0_2, .int .i64 a0_3, .slice A0_4 l0_4.length c0_4]) (t := 40) ?hr ?_; (case hd => rfl); (case hg => rfl); (case hr => first | (go_simp; done) | (go_simp; rfl)); intro gb101 hg w5 hbox hb; have n0_ := Aside0.mk (below_step (by repeat (first | (with_reducible first | exact HB.out | apply below_alloc | apply pw_below_drewN | apply below_drew1) | exact HB.out)) hb); have n1_ := Aside0.mk (hbox); have n2_ := Aside0.mk ((by rw [hg]; exact (below_size (by repeat (first | (with_reducible first | exact HB.out | apply below_alloc | apply pw_below_drewN | apply below_drew1) | exact HB.out))) : w.heap.size ≤ gb101)); have n3_ := Aside0.mk ((by rw [hg]; exact (below_size (by repeat (first | (with_reducible first | exact HB.out | apply below_alloc | apply pw_below_drewN | apply below_drew1) | exact HB.out))) : w.heap.size ≤ gb101)); clear HB; have HB := n0_; have BK101 := n1_; have GW101 := n2_; have GE101 := n3_; clear n0_ n1_ n2_ n3_; clear hb hbox hg))
 (try simp only [Act.put, List.setIfInBounds_toArray, List.set_cons_zero, List.set_cons_succ])
 go_cut [26] (fun v26 wc => ∃ (kq : Nat) (x26_3 : Bool), v26 = .bool x26_3 ∧ Aside0 (hanaperref20_small.j0 kq a1 a2 x26_3 a0_0 a0_1 a0_2 a0_3 l0_4 = some r) ∧ Aside0 (kq ≤ k) ∧ Aside0 (wc.heap[gb101]? = some (.cells #[.int .i64 a0_0, .string a0_1, .int .i64 a0_2, .int .i64 a0_3, (.slice A0_4 l0_4.length c0_4)] 40 (0, 0))) ∧ Aside0 (Below w.heap.size w wc))
 case first =>
  have H := HC4.out
  clear HC4
  by_cases c6 : a1 < 1
  ·rw [if_pos c6] at H
   have c6b0 : decide (a1 < 1) = true := decide_eq_true c6
   clear c6
   (first | rw [c6b0] | (simp only [i64_w, i32_w]; rw [c6b0]) | skip)
   have H' := Aside0.mk H
   clear H
   go_wp2
   go_meet
   case rel => exact ⟨_, (true), (by first | rfl | (simp; done) | (simp [*]; done)), H', ⟨by first | omega | exact Nat.le_refl _⟩, ⟨by (with_reducible repeat (first | refine blk_drewN ?_ _ | refine blk_drew ?_ | refine blk_alloc ?_ _)); exact BK101.out⟩, ⟨by repeat (first | (with_reducible first | exact HB.out | apply below_alloc | apply pw_below_drewN | apply below_drew1 | refine below_set ?_ GE101.out) | exact HB.out)⟩⟩
  ·rw [if_neg c6] at H
   have c6b0 : decide (a1 < 1) = false := decide_eq_false c6
   clear c6
   (first | rw [c6b0] | (simp only [i64_w, i32_w]; rw [c6b0]) | skip)
   by_cases c7 : a2 < 1
   ·rw [if_pos c7] at H
    have c7b0 : decide (a2 < 1) = true := decide_eq_true c7
    clear c7
    have H' := Aside0.mk H
    clear H
    go_wp2
    go_meet
    case rel => exact ⟨_, (true), (by first | rfl | (simp; done) | (simp [*]; done)), H', ⟨by first | omega | exact Nat.le_refl _⟩, ⟨by (with_reducible repeat (first | refine blk_drewN ?_ _ | refine blk_drew ?_ | refine blk_alloc ?_ _)); exact BK101.out⟩, ⟨by repeat (first | (with_reducible first | exact HB.out | apply below_alloc | apply pw_below_drewN | apply below_drew1 | refine below_set ?_ GE101.out) | exact HB.out)⟩⟩
   ·rw [if_neg c7] at H
    have c7b0 : decide (a2 < 1) = false := decide_eq_false c7
    clear c7
    by_cases c8 : (l0_4.length : Int) > a1
    ·rw [if_pos c8] at H
     have c8b0 : decide (a1 < (l0_4.length : Int)) = true := decide_eq_true c8
     clear c8
     have H' := Aside0.mk H
     clear H
     have hcz9_0 : w5.cell? ⟨gb101, 0, none⟩ = some (.int .i64 a0_0) := (blk_cell BK101.out 0).trans rfl
     have hcz9_1 : w5.cell? ⟨gb101, 1, none⟩ = some (.string a0_1) := (blk_cell BK101.out 1).trans rfl
     have hcz9_2 : w5.cell? ⟨gb101, 2, none⟩ = some (.int .i64 a0_2) := (blk_cell BK101.out 2).trans rfl
     have hcz9_3 : w5.cell? ⟨gb101, 3, none⟩ = some (.int .i64 a0_3) := (blk_cell BK101.out 3).trans rfl
     have hcz9_4 : w5.cell? ⟨gb101, 4, none⟩ = some (.slice A0_4 l0_4.length c0_4) := (blk_cell BK101.out 4).trans rfl
     have hfz9_0 := blk_frozen BK101.out 0
     have hfz9_1 := blk_frozen BK101.out 1
     have hfz9_2 := blk_frozen BK101.out 2
     have hfz9_3 := blk_frozen BK101.out 3
     have hfz9_4 := blk_frozen BK101.out 4
     go_wp2
     go_meet
     case rel => exact ⟨_, (true), (by first | rfl | (simp; done) | (simp [*]; done)), H', ⟨by first | omega | exact Nat.le_refl _⟩, ⟨by (with_reducible repeat (first | refine blk_drewN ?_ _ | refine blk_drew ?_ | refine blk_alloc ?_ _)); exact BK101.out⟩, ⟨by repeat (first | (with_reducible first | exact HB.out | apply below_alloc | apply pw_below_drewN | apply below_drew1 | refine below_set ?_ GE101.out) | exact HB.out)⟩⟩
    ·rw [if_neg c8] at H
     have c8b0 : decide (a1 < (l0_4.length : Int)) = false := decide_eq_false c8
     clear c8
     have H' := Aside0.mk H
     clear H
     have hcz10_0 : w5.cell? ⟨gb101, 0, none⟩ = some (.int .i64 a0_0) := (blk_cell BK101.out 0).trans rfl
     have hcz10_1 : w5.cell? ⟨gb101, 1, none⟩ = some (.string a0_1) := (blk_cell BK101.out 1).trans rfl
     have hcz10_2 : w5.cell? ⟨gb101, 2, none⟩ = some (.int .i64 a0_2) := (blk_cell BK101.out 2).trans rfl
     have hcz10_3 : w5.cell? ⟨gb101, 3, none⟩ = some (.int .i64 a0_3) := (blk_cell BK101.out 3).trans rfl
     have hcz10_4 : w5.cell? ⟨gb101, 4, none⟩ = some (.slice A0_4 l0_4.length c0_4) := (blk_cell BK101.out 4).trans rfl
     have hfz10_0 := blk_frozen BK101.out 0
     have hfz10_1 := blk_frozen BK101.out 1
     have hfz10_2 := blk_frozen BK101.out 2
     have hfz10_3 := blk_frozen BK101.out 3
     have hfz10_4 := blk_frozen BK101.out 4
     go_wp2
     go_meet
     case rel => exact ⟨_, (decide ((a0_1.size : Int) > 100)), (by first | rfl | (simp; done) | (simp [*]; done)), H', ⟨by first | omega | exact Nat.le_refl _⟩, ⟨by (with_reducible repeat (first | refine blk_drewN ?_ _ | refine blk_drew ?_ | refine blk_alloc ?_ _)); exact BK101.out⟩, ⟨by repeat (first | (with_reducible first | exact HB.out | apply below_alloc | apply pw_below_drewN | apply below_drew1 | refine below_set ?_ GE101.out) | exact HB.out)⟩⟩
 case rest =>
  clear HC4
  (try clear p2);(try clear c6);(try clear c6b0);(try clear c7);(try clear c7b0);(try clear c8);(try clear c8b0);(try clear hcz10_0);(try clear hcz10_1);(try clear hcz10_2);(try clear hcz10_3);(try clear hcz10_4);(try clear hcz9_0);(try clear hcz9_1);(try clear hcz9_2);(try clear hcz9_3);(try clear hcz9_4);(try clear hfz10_0);(try clear hfz10_1);(try clear hfz10_2);(try clear hfz10_3);(try clear hfz10_4);(try clear hfz9_0);(try clear hfz9_1);(try clear hfz9_2);(try clear hfz9_3);(try clear hfz9_4)
  obtain ⟨kq, x26_3, rfl, HA, HJ3, BK101, HB⟩ := hcut
  cases kq with
  | zero => exact absurd HA.out (by simp [hanaperref20_small.j0])
  | succ kj3 =>
   have H := HA.out
   clear HA
   simp only [hanaperref20_small.j0] at H
   by_cases c11 : x26_3 = true
   ·subst c11
    have H1 : (some (-1)) = some r := by rw [if_pos rfl] at H; exact H
    clear H
    have H := H1
    clear H1
    obtain rfl := Option.some.inj H
    go_wp2
    go_ret
    exact ⟨by first | rfl | (simp [errW_none, errW_some] <;> rfl) | (simp [*, errW_none, errW_some] <;> rfl), by repeat (first | (with_reducible first | exact HB.out | apply below_alloc | apply pw_below_drewN | apply below_drew1 | refine below_set ?_ GE101.out) | exact HB.out)⟩
   ·replace c11 := Bool.eq_false_iff.mpr c11
    subst c11
    have H1 : (hanaperref20_small.l0 kj3 (wrap64 (a1 - 1)) a2 0 a0_0 a0_1 a0_2 a0_3 l0_4) = some r := by rw [if_neg (show ¬ (false = true) by decide)] at H; exact H
    clear H
    have H := H1
    clear H1
    have H' := Aside0.mk H
    clear H
    go_wp2
    go_loopg [1, 7] kj3 (fun kq v1 v7 w' => ∃ (x1_2 : Int) (x7_2 : Int), v1 = .int .i64 x1_2 ∧ v7 = .int .i64 x7_2 ∧ Aside0 (hanaperref20_small.l0 kq x1_2 a2 x7_2 a0_0 a0_1 a0_2 a0_3 l0_4 = some r) ∧ Aside0 (kq ≤ kj3) ∧ Aside0 (w'.heap[gb101]? = some (.cells #[.int .i64 a0_0, .string a0_1, .int .i64 a0_2, .int .i64 a0_3, (.slice A0_4 l0_4.length c0_4)] 40 (0, 0))) ∧ Aside0 (Below w.heap.size w w'))
    case atStart => exact ⟨(wrap64 (a1 - 1)), (0), (by first | rfl | (simp; done) | (simp [*]; done)), (by first | rfl | (simp; done) | (simp [*]; done)), H', ⟨Nat.le_refl _⟩, ⟨by (with_reducible repeat (first | refine blk_drewN ?_ _ | refine blk_drew ?_ | refine blk_alloc ?_ _)); exact BK101.out⟩, ⟨by repeat (first | (with_reducible first | exact HB.out | apply below_alloc | apply pw_below_drewN | apply below_drew1 | refine below_set ?_ GE101.out) | exact HB.out)⟩⟩
    case round =>
     clear H'
     (try clear c1);(try clear p2);(try clear c6);(try clear c6b0);(try clear p6);(try clear c7);(try clear c7b0);(try clear c8);(try clear c8b0);(try clear c11);(try clear hcz10_0);(try clear hcz10_1);(try clear hcz10_2);(try clear hcz10_3);(try clear hcz10_4);(try clear hcz9_0);(try clear hcz9_1);(try clear hcz9_2);(try clear hcz9_3);(try clear hcz9_4);(try clear hfz10_0);(try clear hfz10_1);(try clear hfz10_2);(try clear hfz10_3);(try clear hfz10_4);(try clear hfz9_0);(try clear hfz9_1);(try clear hfz9_2);(try clear hfz9_3);(try clear hfz9_4);(try clear p2)
     obtain ⟨x1_2, x7_2, rfl, rfl, HA, HK2, BK101, HB⟩ := hrel
     cases gk with
     | zero => exact absurd HA.out (by simp [hanaperref20_small.l0])
     | succ k2 =>
      have H := HA.out
      clear HA
      simp only [hanaperref20_small.l0] at H
      by_cases c12 : x7_2 < (l0_4.length : Int)
      ·rw [if_pos c12] at H
       have c12b0 : decide (x7_2 < (l0_4.length : Int)) = true := decide_eq_true c12
       clear c12
       by_cases c13 : x1_2 ≥ 0
       ·rw [if_pos c13] at H
        have c13b0 : decide (0 ≤ x1_2) = true := decide_eq_true c13
        clear c13
        by_cases c14 : 0 ≤ x7_2
        ·rw [if_pos c14] at H
         have c14b0 : decide (0 ≤ x7_2) = true := decide_eq_true c14
         clear c14
         replace H := Option.bind_eq_some_iff.mp H
         obtain ⟨t103, A150, H⟩ := H
         replace H : (hanaperref20_small.l0 k2 t103 a2 (wrap64 (x7_2 + 1)) a0_0 a0_1 a0_2 a0_3 l0_4) = some r := H
         have A15 := Aside0.mk A150
         clear A150
         have H' := Aside0.mk H
         clear H
         have hcz16_0 : wr.cell? ⟨gb101, 0, none⟩ = some (.int .i64 a0_0) := (blk_cell BK101.out 0).trans rfl
         have hcz16_1 : wr.cell? ⟨gb101, 1, none⟩ = some (.string a0_1) := (blk_cell BK101.out 1).trans rfl
         have hcz16_2 : wr.cell? ⟨gb101, 2, none⟩ = some (.int .i64 a0_2) := (blk_cell BK101.out 2).trans rfl
         have hcz16_3 : wr.cell? ⟨gb101, 3, none⟩ = some (.int .i64 a0_3) := (blk_cell BK101.out 3).trans rfl
         have hcz16_4 : wr.cell? ⟨gb101, 4, none⟩ = some (.slice A0_4 l0_4.length c0_4) := (blk_cell BK101.out 4).trans rfl
         have hfz16_0 := blk_frozen BK101.out 0
         have hfz16_1 := blk_frozen BK101.out 1
         have hfz16_2 := blk_frozen BK101.out 2
         have hfz16_3 := blk_frozen BK101.out 3
         have hfz16_4 := blk_frozen BK101.out 4
         have p102 : 0 ≤ (x7_2 : Int) := of_decide_eq_true (by first | (with_reducible assumption) | assumption)
         have q102 : x7_2 < (l0_4.length : Int) := of_decide_eq_true (by first | (with_reducible assumption) | assumption)
         obtain ⟨ad102, A102_4, c102_4, e102, hx102_0, hx102_1, hx102_2, hx102_3, hx102_4, hl102_4, hi102_4⟩ := at_T40 HR0_4.out x7_2 p102 q102
         cases e102
         replace hx102_0 := (HB.out.cell (World.block_lt_of_cell? w _ hx102_0)).trans hx102_0
         replace hx102_1 := (HB.out.cell (World.block_lt_of_cell? w _ hx102_1)).trans hx102_1
         replace hx102_2 := (HB.out.cell (World.block_lt_of_cell? w _ hx102_2)).trans hx102_2
         replace hx102_3 := (HB.out.cell (World.block_lt_of_cell? w _ hx102_3)).trans hx102_3
         replace hx102_4 := (HB.out.cell (World.block_lt_of_cell? w _ hx102_4)).trans hx102_4
         have HR102_4 := Aside0.mk hi102_4
         have HC102_4 := Aside0.mk hl102_4
         clear hi102_4 hl102_4
         replace p102 := eq_true p102
         replace q102 := eq_true q102
         go_wp2_with (first | ((with_reducible refine gate_callee (f := 66) rfl ?_); refine goesL_ (some 48) rfl rfl Try.func66 (by kernel_rfl) rfl #[.agg #[.int .i64 ((rd_T40 l0_4 x7_2).f0), .string ((rd_T40 l0_4 x7_2).f1), .int .i64 ((rd_T40 l0_4 x7_2).f2), .int .i64 ((rd_T40 l0_4 x7_2).f3), .slice A102_4 ((rd_T40 l0_4 x7_2).f4).length c102_4], .int .i64 x1_2, .int .i64 (wrap64 (a2 - 1))] rfl (by (try simp only [List.map_toArray, List.map_cons, List.map_nil]); first | done | rfl | (simp only [List.length_drop, List.length_take]; rfl)) ?_; (with_reducible refine (ih k2 (by have := HJ3.out; have := HK2.out; omega) ((rd_T40 l0_4 x7_2).f0) ((rd_T40 l0_4 x7_2).f1) ((rd_T40 l0_4 x7_2).f2) ((rd_T40 l0_4 x7_2).f3) _ _ ((rd_T40 l0_4 x7_2).f4) x1_2 (wrap64 (a2 - 1)) t103 _ ?side1 ?side2 A15.out).mono ?_); (case side1 => repeat (first | exact (Kd.C_below HR102_4.out HB.out) | (with_reducible refine Kd.C_alloc ?_ _) | (with_reducible refine Kd.C_drewN ?_ _) | (with_reducible refine Kd.C_drew ?_))); (case side2 => exact HC102_4.out); rintro e w17 ⟨rfl, hb⟩; refine ⟨_, rfl, ?_⟩; have n0_ := Aside0.mk (blk_below (g := gb101) (o := .cells #[.int .i64 a0_0, .string a0_1, .int .i64 a0_2, .int .i64 a0_3, .slice (some ad102) l0_4.length c0_4] 40 (0, 0)) (by (with_reducible repeat (first | refine blk_drewN ?_ _ | refine blk_drew ?_ | refine blk_alloc ?_ _)); exact BK101.out) hb); have n1_ := Aside0.mk (below_step (by repeat (first | (with_reducible first | exact HB.out | apply below_alloc | apply pw_below_drewN | apply below_drew1 | refine below_set ?_ GE101.out) | exact HB.out)) hb); clear BK101; clear HB; have BK101 := n0_; have HB := n1_; clear n0_ n1_; (try clear hb); (try clear hb2); (try clear hk); (try clear hi)))
         go_roundg k2
         case measure => have := HJ3.out; have := HK2.out; omega
         case rel => exact ⟨(t103), (wrap64 (x7_2 + 1)), (by first | rfl | (simp; done) | (simp [*]; done)), (by first | rfl | (simp; done) | (simp [*]; done)), H', ⟨by have := HJ3.out; have := HK2.out; omega⟩, ⟨by (with_reducible repeat (first | refine blk_drewN ?_ _ | refine blk_drew ?_ | refine blk_alloc ?_ _)); exact BK101.out⟩, ⟨by repeat (first | (with_reducible first | exact HB.out | apply below_alloc | apply pw_below_drewN | apply below_drew1 | refine below_set ?_ GE101.out) | exact HB.out)⟩⟩
        ·rw [if_neg c14] at H
         exact absurd H (by simp)
       ·rw [if_neg c13] at H
        have c13b0 : decide (0 ≤ x1_2) = false := decide_eq_false c13
        clear c13
        obtain rfl := Option.some.inj H
        have hcz18_0 : wr.cell? ⟨gb101, 0, none⟩ = some (.int .i64 a0_0) := (blk_cell BK101.out 0).trans rfl
        have hcz18_1 : wr.cell? ⟨gb101, 1, none⟩ = some (.string a0_1) := (blk_cell BK101.out 1).trans rfl
        have hcz18_2 : wr.cell? ⟨gb101, 2, none⟩ = some (.int .i64 a0_2) := (blk_cell BK101.out 2).trans rfl
        have hcz18_3 : wr.cell? ⟨gb101, 3, none⟩ = some (.int .i64 a0_3) := (blk_cell BK101.out 3).trans rfl
        have hcz18_4 : wr.cell? ⟨gb101, 4, none⟩ = some (.slice A0_4 l0_4.length c0_4) := (blk_cell BK101.out 4).trans rfl
        have hfz18_0 := blk_frozen BK101.out 0
        have hfz18_1 := blk_frozen BK101.out 1
        have hfz18_2 := blk_frozen BK101.out 2
        have hfz18_3 := blk_frozen BK101.out 3
        have hfz18_4 := blk_frozen BK101.out 4
        go_wp2
        go_ret
        exact ⟨by first | rfl | (simp [errW_none, errW_some] <;> rfl) | (simp [*, errW_none, errW_some] <;> rfl), by repeat (first | (with_reducible first | exact HB.out | apply below_alloc | apply pw_below_drewN | apply below_drew1 | refine below_set ?_ GE101.out) | exact HB.out)⟩
      ·rw [if_neg c12] at H
       have c12b0 : decide (x7_2 < (l0_4.length : Int)) = false := decide_eq_false c12
       clear c12
       obtain rfl := Option.some.inj H
       have hcz19_0 : wr.cell? ⟨gb101, 0, none⟩ = some (.int .i64 a0_0) := (blk_cell BK101.out 0).trans rfl
       have hcz19_1 : wr.cell? ⟨gb101, 1, none⟩ = some (.string a0_1) := (blk_cell BK101.out 1).trans rfl
       have hcz19_2 : wr.cell? ⟨gb101, 2, none⟩ = some (.int .i64 a0_2) := (blk_cell BK101.out 2).trans rfl
       have hcz19_3 : wr.cell? ⟨gb101, 3, none⟩ = some (.int .i64 a0_3) := (blk_cell BK101.out 3).trans rfl
       have hcz19_4 : wr.cell? ⟨gb101, 4, none⟩ = some (.slice A0_4 l0_4.length c0_4) := (blk_cell BK101.out 4).trans rfl
       have hfz19_0 := blk_frozen BK101.out 0
       have hfz19_1 := blk_frozen BK101.out 1
       have hfz19_2 := blk_frozen BK101.out 2
       have hfz19_3 := blk_frozen BK101.out 3
       have hfz19_4 := blk_frozen BK101.out 4
       go_wp2
       go_ret
       exact ⟨by first | rfl | (simp [errW_none, errW_some] <;> rfl) | (simp [*, errW_none, errW_some] <;> rfl), by repeat (first | (with_reducible first | exact HB.out | apply below_alloc | apply pw_below_drewN | apply below_drew1 | refine below_set ?_ GE101.out) | exact HB.out)⟩

end Go.Proofs.Ytgdpabedlghiaaa.PZ
-- printed for this claim by a program (pall.sh)
-- mended by fixpz.py
namespace Go.Proofs.Ytgdpabedlghiaaa.PZ
open Go.RowKit Go.Proofs.YtgdpabedlghiaaaW.PrintWords Go.Proofs.YtgdpabedlghiaaaW.PrintLast Go.Proofs.YtgdpabedlghiaaaW.PrintMore
attribute [local go_sem] max2_int min2_int max_two min_two max_three min_three max_four min_four   -- for this text's walks alone
set_option linter.unusedVariables false
set_option linter.unusedSimpArgs false

/-! ### hanaperref20_Small: function 23 -/
def hanaperref20_Small.f (k : Nat) (a0_0 : Int) (a0_1 : ByteArray) (a0_2 : Int) (a0_3 : Int) (l0_4 : List (S40)) : Option (Bool) := (hanaperref20_small.f k a0_0 a0_1 a0_2 a0_3 l0_4 60 30).bind fun t102 => (some (decide (t102 ≥ 0)))
set_option maxHeartbeats 8000000 in
set_option maxRecDepth 100000 in
theorem hanaperref20_Small.calls (k : Nat) (a0_0 : Int) (a0_1 : ByteArray) (a0_2 : Int) (a0_3 : Int) (A0_4 : Option Addr) (c0_4 : Nat) (l0_4 : List (S40)) (r : Bool) (w : World) (hr0_4 : Kd.C k40 w A0_4 l0_4.length l0_4) (hc0_4 : l0_4.length ≤ c0_4) (h : hanaperref20_Small.f k a0_0 a0_1 a0_2 a0_3 l0_4 = some r) :
  Calls Try.prog 23 #[.agg #[.int .i64 a0_0, .string a0_1, .int .i64 a0_2, .int .i64 a0_3, .slice A0_4 l0_4.length c0_4]] w fun e w' => e = .returned (.bool r) ∧ Below w.heap.size w w' := by
 have hu40 := Try.underlying40
 have HR0_4 := Aside0.mk hr0_4
 have HC0_4 := Aside0.mk hc0_4
 clear hr0_4 hc0_4
 have HB := Aside0.mk (Below.refl w.heap.size w)
 have H : ((hanaperref20_small.f k a0_0 a0_1 a0_2 a0_3 l0_4 60 30).bind fun t102 => (some (decide (t102 ≥ 0)))) = some r := h
 clear h
 replace H := Option.bind_eq_some_iff.mp H
 obtain ⟨t102, A20, H⟩ := H
 replace H : (some (decide (t102 ≥ 0))) = some r := H
 have A2 := Aside0.mk A20
 clear A20
 obtain rfl := Option.some.inj H
 go_enter Try.func23, Try.ntmps23
 go_wp2_with (first | ((with_reducible refine gate_dst (N := 1) rfl ?_); refine box_event ?hg (N := 1) ?hd (cs := #[.int .i64 a0_0, .string a0_1, .int .i64 a0_2, .int .i64 a0_3, .slice A0_4 l0_4.length c0_4]) (t := 40) ?hr ?_; (case hd => rfl); (case hg => rfl); (case hr => first | (go_simp; done) | (go_simp; rfl)); intro gb101 hg w3 hbox hb; have n0_ := Aside0.mk (below_step (by repeat (first | (with_reducible first | exact HB.out | apply below_alloc | apply pw_below_drewN | apply below_drew1) | exact HB.out)) hb); have n1_ := Aside0.mk (hbox); have n2_ := Aside0.mk ((by rw [hg]; exact (below_size (by repeat (first | (with_reducible first | exact HB.out | apply below_alloc | apply pw_below_drewN | apply below_drew1) | exact HB.out))) : w.heap.size ≤ gb101)); have n3_ := Aside0.mk ((by rw [hg]; exact (below_size (by repeat (first | (with_reducible first | exact HB.out | apply below_alloc | apply pw_below_drewN | apply below_drew1) | exact HB.out))) : w.heap.size ≤ gb101)); clear HB; have HB := n0_; have BK101 := n1_; have GW101 := n2_; have GE101 := n3_; clear n0_ n1_ n2_ n3_; clear hb hbox hg; have hcz4_0 : w3.cell? ⟨gb101, 0, none⟩ = some (.int .i64 a0_0) := (blk_cell BK101.out 0).trans rfl; have hcz4_1 : w3.cell? ⟨gb101, 1, none⟩ = some (.string a0_1) := (blk_cell BK101.out 1).trans rfl; have hcz4_2 : w3.cell? ⟨gb101, 2, none⟩ = some (.int .i64 a0_2) := (blk_cell BK101.out 2).trans rfl; have hcz4_3 : w3.cell? ⟨gb101, 3, none⟩ = some (.int .i64 a0_3) := (blk_cell BK101.out 3).trans rfl; have hcz4_4 : w3.cell? ⟨gb101, 4, none⟩ = some (.slice A0_4 l0_4.length c0_4) := (blk_cell BK101.out 4).trans rfl; have hfz4_0 := blk_frozen BK101.out 0; have hfz4_1 := blk_frozen BK101.out 1; have hfz4_2 := blk_frozen BK101.out 2; have hfz4_3 := blk_frozen BK101.out 3; have hfz4_4 := blk_frozen BK101.out 4) | ((with_reducible refine gate_callee (f := 66) rfl ?_); refine goesL_ (some 4) rfl rfl Try.func66 (by kernel_rfl) rfl #[.agg #[.int .i64 a0_0, .string a0_1, .int .i64 a0_2, .int .i64 a0_3, .slice A0_4 l0_4.length c0_4], .int .i64 60, .int .i64 30] rfl (by (try simp only [List.map_toArray, List.map_cons, List.map_nil]); first | done | rfl | (simp only [List.length_drop, List.length_take]; rfl)) ?_; (with_reducible refine (hanaperref20_small.calls k a0_0 a0_1 a0_2 a0_3 _ _ l0_4 60 30 t102 _ ?side1 ?side2 A2.out).mono ?_); (case side1 => repeat (first | exact (Kd.C_below HR0_4.out HB.out) | (with_reducible refine Kd.C_alloc ?_ _) | (with_reducible refine Kd.C_drewN ?_ _) | (with_reducible refine Kd.C_drew ?_))); (case side2 => exact HC0_4.out); rintro e w5 ⟨rfl, hb⟩; refine ⟨_, rfl, ?_⟩; have n0_ := Aside0.mk (blk_below (g := gb101) (o := .cells #[.int .i64 a0_0, .string a0_1, .int .i64 a0_2, .int .i64 a0_3, .slice A0_4 l0_4.length c0_4] 40 (0, 0)) (by (with_reducible repeat (first | refine blk_drewN ?_ _ | refine blk_drew ?_ | refine blk_alloc ?_ _)); exact BK101.out) hb); have n1_ := Aside0.mk (below_step (by repeat (first | (with_reducible first | exact HB.out | apply below_alloc | apply pw_below_drewN | apply below_drew1 | refine below_set ?_ GE101.out) | exact HB.out)) hb); clear BK101; clear HB; have BK101 := n0_; have HB := n1_; clear n0_ n1_; (try clear hb); (try clear hb2); (try clear hk); (try clear hi)))
 go_ret
 exact ⟨by first | rfl | (simp [errW_none, errW_some] <;> rfl) | (simp [*, errW_none, errW_some] <;> rfl), by repeat (first | (with_reducible first | exact HB.out | apply below_alloc | apply pw_below_drewN | apply below_drew1 | refine below_set ?_ GE101.out) | exact HB.out)⟩

end Go.Proofs.Ytgdpabedlghiaaa.PZ
-- printed for this claim by a program (pall.sh)
-- mended by fixpz.py
namespace Go.Proofs.Ytgdpabedlghiaaa.PZ
open Go.RowKit Go.Proofs.YtgdpabedlghiaaaW.PrintWords Go.Proofs.YtgdpabedlghiaaaW.PrintLast Go.Proofs.YtgdpabedlghiaaaW.PrintMore
attribute [local go_sem] max2_int min2_int max_two min_two max_three min_three max_four min_four   -- for this text's walks alone
set_option linter.unusedVariables false
set_option linter.unusedSimpArgs false

end Go.Proofs.Ytgdpabedlghiaaa.PZ
-- printed for this claim by a program (pall.sh)
-- mended by fixpz.py
namespace Go.Proofs.Ytgdpabedlghiaaa.PZ
open Go.RowKit Go.Proofs.YtgdpabedlghiaaaW.PrintWords Go.Proofs.YtgdpabedlghiaaaW.PrintLast Go.Proofs.YtgdpabedlghiaaaW.PrintMore
attribute [local go_sem] max2_int min2_int max_two min_two max_three min_three max_four min_four   -- for this text's walks alone
set_option linter.unusedVariables false
set_option linter.unusedSimpArgs false

end Go.Proofs.Ytgdpabedlghiaaa.PZ
/- Scopes, plain: how many parts, which may be. -/
namespace Go.Proofs.Ytgdpabedlghiaaa.Scope
set_option linter.unusedVariables false
set_option linter.unusedSimpArgs false
open Go.RowKit Go.Proofs.YtgdpabedlghiaaaW.PrintWords Go.Proofs.Ytgdpabedlghiaaa.PZ Go.Proofs.Ytgdpabedlghiaaa.Aid
mutual
/-- How many parts a scope has. -/
def nodes : S40 → Nat
  | ⟨_, _, _, _, kids⟩ => nodesL kids + 1
def nodesL : List S40 → Nat
  | [] => 0
  | k :: ks => nodes k + nodesL ks
end
mutual
/-- Its names are short. -/
def short : S40 → Prop
  | ⟨_, nm, _, _, kids⟩ => nm.size ≤ 100 ∧ shortL kids
def shortL : List S40 → Prop
  | [] => True
  | k :: ks => short k ∧ shortL ks
end
theorem nodes_eq (x : S40) : nodes x = nodesL x.f4 + 1 := by obtain ⟨_, _, _, _, _⟩ := x; rw [nodes]
theorem short_eq (x : S40) : short x ↔ x.f1.size ≤ 100 ∧ shortL x.f4 := by obtain ⟨_, _, _, _, _⟩ := x; rw [short]
theorem nodes_pos (x : S40) : 1 ≤ nodes x := by rw [nodes_eq]; omega
theorem len_nodes : ∀ ks : List S40, ks.length ≤ nodesL ks
  | [] => Nat.zero_le _
  | k :: ks => by rw [nodesL, List.length_cons]; have := len_nodes ks; have := nodes_pos k; omega
theorem rd_at (xs : List S40) (i : Nat) (h : i < xs.length) : rd_T40 xs (i : Int) = xs[i] := by simp [rd_T40, List.getD_eq_getElem?_getD, List.getElem?_eq_getElem h]
/-- What 'small' comes to: below 0, or what is left of as many parts. -/
def SmallV (x : S40) (most v : Int) : Prop := -1 ≤ v ∧ v ≤ 60 ∧ (0 ≤ v → short x ∧ (nodes x : Int) + v ≤ most)
theorem small_loop (op : Int) (nm : ByteArray) (fr to_ : Int) (kids : List S40) (deep : Int) (hd0 : 0 ≤ deep) (hd1 : deep ≤ 30)
    (ih : ∀ k ∈ kids, ∀ most, -1 ≤ most → most ≤ 60 → ∃ v, SmallV k most v ∧ Ev (fun n => hanaperref20_small.f n k.f0 k.f1 k.f2 k.f3 k.f4 most (wrap64 (deep - 1))) v) :
    ∀ (m i : Nat) (most : Int), i + m = kids.length → kids.length ≤ 60 → -1 ≤ most → most ≤ 60 →
      ∃ v, -1 ≤ v ∧ v ≤ 60 ∧ (0 ≤ v → shortL (kids.drop i) ∧ (nodesL (kids.drop i) : Int) + v ≤ most) ∧ Ev (fun n => hanaperref20_small.l0 n most deep (i : Int) op nm fr to_ kids) v := by
  intro m
  induction m with
  | zero =>
    intro i most hi hl h0 h1
    refine ⟨most, h0, h1, fun h => ?_, Ev.step (fun k => by simp only [hanaperref20_small.l0]; rfl) (neg (by omega) (now rfl))⟩
    rw [List.drop_eq_nil_of_le (by omega)]
    exact ⟨trivial, by simp [nodesL]⟩
  | succ m ih2 =>
    intro i most hi hl h0 h1
    by_cases hm : most ≥ 0
    · have hlt : i < kids.length := by omega
      obtain ⟨v, hv, he⟩ := ih kids[i] (List.getElem_mem hlt) most h0 h1
      obtain ⟨v2, a0, a1, a2, a3⟩ := ih2 (i + 1) v (by omega) hl hv.1 hv.2.1
      refine ⟨v2, a0, a1, fun h => ?_, Ev.step (fun k => by simp only [hanaperref20_small.l0]; rfl) (pos (by omega) (pos hm (pos (by omega) ?_)))⟩
      · have hp : 0 ≤ v := by
          have := (a2 h).2
          omega
        have b := hv.2.2 hp
        rw [List.drop_eq_getElem_cons hlt, shortL, nodesL]
        exact ⟨⟨b.1, (a2 h).1⟩, by have := (a2 h).2; omega⟩
      · rw [rd_at kids i hlt]
        refine evBind he ?_
        rw [show wrap64 ((i : Int) + 1) = ((i + 1 : Nat) : Int) from inc hlt (by omega)]
        exact a3
    · refine ⟨most, h0, h1, fun h => absurd h hm, Ev.step (fun k => by simp only [hanaperref20_small.l0]; rfl) (pos (by omega) (neg hm (now rfl)))⟩
theorem small_j (op : Int) (nm : ByteArray) (fr to_ : Int) (kids : List S40) (most deep : Int) : Ev (fun n => hanaperref20_small.j0 n most deep true op nm fr to_ kids) (-1) :=
  Ev.step (fun k => by simp only [hanaperref20_small.j0]; rfl) (pos (show true = true from rfl) (now rfl))
theorem small_ev : ∀ (n : Nat) (x : S40), SizeOf.sizeOf x < n → ∀ most deep, -1 ≤ most → most ≤ 60 → 0 ≤ deep → deep ≤ 30 → ∃ v, SmallV x most v ∧ Ev (fun k => hanaperref20_small.f k x.f0 x.f1 x.f2 x.f3 x.f4 most deep) v := by
  intro n
  induction n with
  | zero => intro x h; exact absurd h (by omega)
  | succ n ih =>
    intro x hn most deep h0 h1 d0 d1
    have bad : ∀ g : Nat → Option Int, Ev g (-1) → SmallV x most (-1) := fun _ _ => ⟨by omega, by omega, fun h => absurd h (by omega)⟩
    by_cases c1 : most < 1
    · exact ⟨-1, bad _ (small_j 0 x.f1 0 0 [] 0 0), Ev.step (fun k => by simp only [hanaperref20_small.f]; rfl) (pos c1 (small_j _ _ _ _ _ _ _))⟩
    · by_cases c2 : deep < 1
      · exact ⟨-1, bad _ (small_j 0 x.f1 0 0 [] 0 0), Ev.step (fun k => by simp only [hanaperref20_small.f]; rfl) (neg c1 (pos c2 (small_j _ _ _ _ _ _ _)))⟩
      · by_cases c3 : (x.f4.length : Int) > most
        · exact ⟨-1, bad _ (small_j 0 x.f1 0 0 [] 0 0), Ev.step (fun k => by simp only [hanaperref20_small.f]; rfl) (neg c1 (neg c2 (pos c3 (small_j _ _ _ _ _ _ _))))⟩
        · by_cases c4 : (x.f1.size : Int) > 100
          · exact ⟨-1, bad _ (small_j 0 x.f1 0 0 [] 0 0), Ev.step (fun k => by simp only [hanaperref20_small.f]; rfl) (neg c1 (neg c2 (neg c3 (by rw [decide_eq_true c4]; exact small_j _ _ _ _ _ _ _))))⟩
          · have hw : wrap64 (most - 1) = most - 1 := w64 (by omega) (by omega)
            have hw2 : wrap64 (deep - 1) = deep - 1 := w64 (by omega) (by omega)
            obtain ⟨v, a0, a1, a2, a3⟩ := small_loop x.f0 x.f1 x.f2 x.f3 x.f4 deep d0 d1 (fun k hk m q0 q1 => ih k (by have := kid_lt hk; omega) m (wrap64 (deep - 1)) q0 q1 (by omega) (by omega)) x.f4.length 0 (most - 1) (by omega) (by omega) (by omega) (by omega)
            refine ⟨v, ⟨a0, a1, fun h => ?_⟩, Ev.step (fun k => by simp only [hanaperref20_small.f]; rfl) (neg c1 (neg c2 (neg c3 ?_)))⟩
            · have b := a2 h
              rw [List.drop_zero] at b
              exact ⟨(short_eq x).2 ⟨by omega, b.1⟩, by rw [nodes_eq]; have := b.2; omega⟩
            · rw [decide_eq_false c4]
              refine Ev.step (fun k => by simp only [hanaperref20_small.j0]; rfl) (neg (show ¬ (false = true) by decide) ?_)
              rw [hw]
              exact a3
/-- Small, whatever the scope: yes or no; if yes, it has at most 60 parts, and short names. -/
theorem Small_ev (x : S40) : ∃ b, Ev (fun k => hanaperref20_Small.f k x.f0 x.f1 x.f2 x.f3 x.f4) b ∧ (b = true → short x ∧ nodes x ≤ 60) := by
  obtain ⟨v, hv, he⟩ := small_ev _ x (Nat.lt_succ_self _) 60 30 (by decide) (by decide) (by decide) (by decide)
  refine ⟨decide (v ≥ 0), evBind he (now rfl), fun h => ?_⟩
  have h0 : 0 ≤ v := of_decide_eq_true h
  have := hv.2.2 h0
  exact ⟨this.1, by omega⟩
theorem node_le : ∀ {ks : List S40} {k : S40}, k ∈ ks → nodes k ≤ nodesL ks
  | k' :: ks, k, h => by
    rw [nodesL]
    rcases List.mem_cons.1 h with rfl | h
    · omega
    · have := node_le h; omega
theorem shortL_mem : ∀ {ks : List S40} {k : S40}, shortL ks → k ∈ ks → short k
  | k' :: ks, k, h, hk => by
    rw [shortL] at h
    rcases List.mem_cons.1 hk with rfl | hk
    · exact h.1
    · exact shortL_mem h.2 hk
end Go.Proofs.Ytgdpabedlghiaaa.Scope
-- printed for this claim by a program (pall.sh)
-- mended by fixpz.py
namespace Go.Proofs.Ytgdpabedlghiaaa.PZ
open Go.RowKit Go.Proofs.YtgdpabedlghiaaaW.PrintWords Go.Proofs.YtgdpabedlghiaaaW.PrintLast Go.Proofs.YtgdpabedlghiaaaW.PrintMore
attribute [local go_sem] max2_int min2_int max_two min_two max_three min_three max_four min_four   -- for this text's walks alone
set_option linter.unusedVariables false
set_option linter.unusedSimpArgs false

end Go.Proofs.Ytgdpabedlghiaaa.PZ
/- Which texts may be names: the document's answer is the same. -/
namespace Go.Proofs.Ytgdpabedlghiaaa.Name
open Go.RowKit Go.Lib Go.Proofs.Ytgdpabedlghiaaa.Base Go.Proofs.Ytgdpabedlghiaaa.Aid Go.Proofs.Ytgdpabedlghiaaa.PZ Go.Proofs.YtgdpabedlghiaaaW.PrintWords Go.Proofs.YtgdpabedlghiaaaW.PrintLast Go.Proofs.YtgdpabedlghiaaaW.PrintMore

theorem letB_high {r : Nat} (h : 128 ≤ r) : letB r = false := by
  unfold letB
  rw [decide_eq_false (p := r ≤ 122) (by omega), decide_eq_false (p := r ≤ 57) (by omega), decide_eq_false (p := r = 46) (by omega), decide_eq_false (p := r = 45) (by omega), decide_eq_false (p := r = 95) (by omega)]
  simp
theorem dec_low (s : ByteArray) (pos : Nat) (hb : (s.get! pos).toNat < 128) : Utf8.decode s pos = ((s.get! pos).toNat, 1) := by
  unfold Utf8.decode
  simp only [Nat.add_zero]
  rw [if_pos hb]
theorem dec_high (s : ByteArray) (pos : Nat) (hb : ¬ (s.get! pos).toNat < 128) : 128 ≤ (Utf8.decode s pos).1 := by
  unfold Utf8.decode
  simp only [Nat.add_zero]
  rw [if_neg hb]
  split
  · split
    · assumption
    · simp [Utf8.runeError]
  · split
    · split
      · next h => simp only [Bool.and_eq_true, decide_eq_true_eq] at h; omega
      · simp [Utf8.runeError]
    · split
      · split
        · next h => simp only [Bool.and_eq_true, decide_eq_true_eq] at h; omega
        · simp [Utf8.runeError]
      · simp [Utf8.runeError]
theorem idx_all (s : ByteArray) : ∀ (f pos : Nat), s.size ≤ pos + f → (Lib.idxFuncFrom (fun r => !letB r) true s f pos < 0 ↔ ∀ i, pos ≤ i → i < s.size → letB (s.get! i).toNat = true) := by
  intro f
  induction f with
  | zero =>
    intro pos h
    constructor
    · intro _ i h1 h2; omega
    · intro _; show (-1 : Int) < 0; omega
  | succ f ih =>
    intro pos h
    unfold Lib.idxFuncFrom
    by_cases hp : pos < s.size
    · rw [if_pos hp]
      by_cases hb : (s.get! pos).toNat < 128
      · rw [dec_low s pos hb]
        dsimp only
        cases hl : letB (s.get! pos).toNat with
        | false =>
          rw [if_pos (by rfl)]
          constructor
          · intro h2; omega
          · intro h2; have := h2 pos (Nat.le_refl _) hp; rw [hl] at this; cases this
        | true =>
          rw [if_neg (by simp), ih (pos + 1) (by omega)]
          constructor
          · intro h2 i h3 h4
            by_cases e : i = pos
            · rw [e]; exact hl
            · exact h2 i (by omega) h4
          · intro h2 i h3 h4; exact h2 i (by omega) h4
      · have hd := dec_high s pos hb
        rw [if_pos (by rw [letB_high hd]; rfl)]
        constructor
        · intro h2; omega
        · intro h2
          have := h2 pos (Nat.le_refl _) hp
          rw [letB_high (by omega)] at this
          cases this
    · rw [if_neg hp]
      constructor
      · intro _ i h1 h2; omega
      · intro _; omega
theorem name_iff (s : ByteArray) : nameB s = (decide (∀ i, i < s.size → letB (s.get! i).toNat = true) && (decide (1 ≤ s.size) && decide (s.size ≤ 16))) := by
  unfold nameB Lib.idxFunc
  congr 1
  have := idx_all s s.size 0 (by omega)
  exact decide_eq_decide.2 (this.trans ⟨fun h i hi => h i (Nat.zero_le _) hi, fun h i _ hi => h i hi⟩)
end Go.Proofs.Ytgdpabedlghiaaa.Name
-- printed for this claim by a program (pall.sh)
-- mended by fixpz.py
namespace Go.Proofs.Ytgdpabedlghiaaa.PZ
open Go.RowKit Go.Proofs.YtgdpabedlghiaaaW.PrintWords Go.Proofs.YtgdpabedlghiaaaW.PrintLast Go.Proofs.YtgdpabedlghiaaaW.PrintMore
attribute [local go_sem] max2_int min2_int max_two min_two max_three min_three max_four min_four   -- for this text's walks alone
set_option linter.unusedVariables false
set_option linter.unusedSimpArgs false

end Go.Proofs.Ytgdpabedlghiaaa.PZ
-- printed for this claim by a program (pall.sh)
-- mended by fixpz.py
namespace Go.Proofs.Ytgdpabedlghiaaa.PZ
open Go.RowKit Go.Proofs.YtgdpabedlghiaaaW.PrintWords Go.Proofs.YtgdpabedlghiaaaW.PrintLast Go.Proofs.YtgdpabedlghiaaaW.PrintMore
attribute [local go_sem] max2_int min2_int max_two min_two max_three min_three max_four min_four   -- for this text's walks alone
set_option linter.unusedVariables false
set_option linter.unusedSimpArgs false

end Go.Proofs.Ytgdpabedlghiaaa.PZ
/- Which scopes may be: the document's count is the program's. -/
namespace Go.Proofs.Ytgdpabedlghiaaa.Scope
set_option linter.unusedVariables false
set_option linter.unusedSimpArgs false
open Go.RowKit Go.Proofs.YtgdpabedlghiaaaW.PrintWords Go.Proofs.Ytgdpabedlghiaaa.PZ Go.Proofs.Ytgdpabedlghiaaa.Aid
theorem may_eq (x : S40) (deep left : Int) : mayS x deep left = if wrap64 (left - 1) < 0 then (false, wrap64 (left - 1)) else if deep = 0 then (false, wrap64 (left - 1)) else if fieldsB x.f0 x.f1 x.f2 x.f3 = false then (false, wrap64 (left - 1))
      else if (x.f4.length : Int) < leastB x.f0 then (false, wrap64 (left - 1)) else if mostB x.f0 < (x.f4.length : Int) then (false, wrap64 (left - 1))
      else (!(mayAny x.f4 (wrap64 (deep - 1)) (wrap64 (left - 1))).1, (mayAny x.f4 (wrap64 (deep - 1)) (wrap64 (left - 1))).2) := by
  obtain ⟨op, nm, fr, to_, kids⟩ := x
  simp only [mayS]
theorem any_rng (d : Int) : ∀ (ks : List S40) (l : Int), (∀ k ∈ ks, ∀ l, -1 ≤ l → l ≤ 24 → (mayS k d l).1 = true → 0 ≤ (mayS k d l).2 ∧ (mayS k d l).2 + nodes k ≤ l) → -1 ≤ l → l ≤ 24 → (mayAny ks d l).1 = false → (mayAny ks d l).2 + nodesL ks ≤ l ∧ (0 ≤ l → 0 ≤ (mayAny ks d l).2)
  | [], l, _, _, _, _ => by simp [mayAny, nodesL]
  | k :: ks, l, ih, h0, h1, h => by
    rw [mayAny] at h ⊢
    by_cases c : (mayS k d l).1 = false
    · rw [if_pos c] at h
      exact absurd h (by simp)
    · rw [if_neg c] at h ⊢
      have c' : (mayS k d l).1 = true := by simpa using c
      obtain ⟨a, b⟩ := ih k (List.mem_cons_self) l h0 h1 c'
      have := any_rng d ks _ (fun k hk => ih k (List.mem_cons_of_mem _ hk)) (by omega) (by omega) h
      rw [nodesL]
      exact ⟨by have := this.1; omega, fun _ => this.2 a⟩
theorem may_rng : ∀ (n : Nat) (x : S40), SizeOf.sizeOf x < n → ∀ d l, -1 ≤ l → l ≤ 24 → (mayS x d l).1 = true → 0 ≤ (mayS x d l).2 ∧ (mayS x d l).2 + nodes x ≤ l := by
  intro n
  induction n with
  | zero => intro x h; exact absurd h (by omega)
  | succ n ih =>
    intro x hn d l h0 h1 h
    have hw : wrap64 (l - 1) = l - 1 := w64 (by omega) (by omega)
    rw [may_eq, hw] at h ⊢
    by_cases c1 : l - 1 < 0
    · rw [if_pos c1] at h; exact absurd h (by simp)
    · rw [if_neg c1] at h ⊢
      by_cases c2 : d = 0
      · rw [if_pos c2] at h; exact absurd h (by simp)
      · rw [if_neg c2] at h ⊢
        by_cases c3 : fieldsB x.f0 x.f1 x.f2 x.f3 = false
        · rw [if_pos c3] at h; exact absurd h (by simp)
        · rw [if_neg c3] at h ⊢
          by_cases c4 : (x.f4.length : Int) < leastB x.f0
          · rw [if_pos c4] at h; exact absurd h (by simp)
          · rw [if_neg c4] at h ⊢
            by_cases c5 : mostB x.f0 < (x.f4.length : Int)
            · rw [if_pos c5] at h; exact absurd h (by simp)
            · rw [if_neg c5] at h ⊢
              have h' : (mayAny x.f4 (wrap64 (d - 1)) (l - 1)).1 = false := by simpa using h
              have := any_rng (wrap64 (d - 1)) x.f4 (l - 1) (fun k hk l q0 q1 q2 => ih k (by have := kid_lt hk; omega) _ l q0 q1 q2) (by omega) (by omega) h'
              exact ⟨this.2 (by omega), by rw [nodes_eq]; have := this.1; show (mayAny x.f4 (wrap64 (d - 1)) (l - 1)).2 + _ ≤ l; omega⟩
end Go.Proofs.Ytgdpabedlghiaaa.Scope
/- The lowest functions, each with what it answers. -/
namespace Go.Proofs.Ytgdpabedlghiaaa.Lo
open Go.Proofs.Ytgdpabedlghiaaa.Base Go.Proofs.Ytgdpabedlghiaaa.TlvPlain Go.Proofs.Ytgdpabedlghiaaa.Aid Go.RowKit Go.Proofs.YtgdpabedlghiaaaW.PrintWords Go.Proofs.YtgdpabedlghiaaaW.PrintLast Go.Proofs.YtgdpabedlghiaaaW.PrintMore Go.Proofs.Ytgdpabedlghiaaa.PZ

/-- New bytes. -/
def Makes (w : World) (bs : List Int) (e : Ending) (w' : World) : Prop := ∃ v : Value, e = .returned v ∧ Ob w' w.heap.size v bs ∧ Below w.heap.size w w'
theorem same_c (A0 : Option Addr) (c0 : Nat) (a : List Int) (A1 : Option Addr) (c1 : Nat) (b : List Int) (w : World) (h0 : Rb w A0 a) (hc0 : a.length ≤ c0) (h1 : Rb w A1 b) (hc1 : b.length ≤ c1) (hn : a.length ≤ 4611686018427387904) :
    Calls Try.prog 18 #[.slice A0 a.length c0, .slice A1 b.length c1] w fun e w' => e = .returned (.bool (decide (a = b))) ∧ Drawn0 w w' := by
  obtain ⟨k, h⟩ := (same_ev a b hn).rounds
  exact hanaperref01_Same.calls k A0 c0 a A1 c1 b _ w h0 hc0 h1 hc1 h
theorem same_n (A0 : Option Addr) (c0 n0 : Nat) (a : List Int) (A1 : Option Addr) (c1 n1 : Nat) (b : List Int) (w : World) (h0 : Rb w A0 a) (e0 : a.length = n0) (hc0 : n0 ≤ c0) (h1 : Rb w A1 b) (e1 : b.length = n1) (hc1 : n1 ≤ c1) (hn : n0 ≤ 4611686018427387904) :
    Calls Try.prog 18 #[.slice A0 n0 c0, .slice A1 n1 c1] w fun e w' => e = .returned (.bool (decide (a = b))) ∧ Drawn0 w w' := by
  subst e0; subst e1
  exact same_c A0 c0 a A1 c1 b w h0 hc0 h1 hc1 hn
theorem text_c (A0 : Option Addr) (c0 : Nat) (l : List Int) (w : World) (hr : Rb w A0 l) (hc : l.length ≤ c0) (hl : l.length < 140737488355000) : Calls Try.prog 56 #[.slice A0 l.length c0] w (Makes w (textB l)) := by
  obtain ⟨k, h⟩ := (text_ev l hl).rounds
  exact tlv_Text.calls k A0 c0 l _ w hr hc h
theorem copy_c (A0 : Option Addr) (c0 : Nat) (l : List Int) (w : World) (hr : Rb w A0 l) (hc : l.length ≤ c0) (hl : l.length < 140737488355328) : Calls Try.prog 93 #[.slice A0 l.length c0] w (Makes w l) :=
  hanaperref01_Copy.calls A0 c0 l _ w hr hc (copy_ev l hl)
theorem copy_n (A0 : Option Addr) (c0 n : Nat) (l : List Int) (w : World) (hr : Rb w A0 l) (hn : l.length = n) (hc : n ≤ c0) (hl : n < 140737488355328) : Calls Try.prog 93 #[.slice A0 n c0] w (Makes w l) := by
  subst hn
  exact copy_c A0 c0 l w hr hc hl
theorem value_c (A0 : Option Addr) (c0 : Nat) (l : List Int) (w : World) (hr : Rb w A0 l) (hc : l.length ≤ c0) (hu : U8 l) (h8 : l.length ≤ 8) :
    Calls Try.prog 124 #[.slice A0 l.length c0] w fun e w' => e = .returned (.int .u64 (valueB l)) ∧ Drawn0 w w' := by
  obtain ⟨k, h⟩ := (value_ev l hu h8).rounds
  exact hanaperref01_Value.calls k A0 c0 l _ w hr hc h
end Go.Proofs.Ytgdpabedlghiaaa.Lo
/- Text of a string's bytes (a conversion and a call, one step for the printer). -/
namespace Go.Proofs.Ytgdpabedlghiaaa.PZ
set_option linter.unusedVariables false
open Go.RowKit Go.Proofs.Ytgdpabedlghiaaa.Base Go.Proofs.Ytgdpabedlghiaaa.TlvPlain Go.Proofs.Ytgdpabedlghiaaa.Lo Go.Proofs.YtgdpabedlghiaaaW.PrintWords
theorem textS_of {F : Nat} (s : ByteArray) (hs : s.size < 140737488355000) (W : World) (h : Calls Try.prog F #[.slice (some ⟨W.heap.size, 0, none⟩) (bytesOf s).length (grownCap W s.size 0 5)] (Lib.bytesWorld W 5 s) (Makes (Lib.bytesWorld W 5 s) (textB (bytesOf s)))) :
    Calls Try.prog F #[.slice (some ⟨W.heap.size, 0, none⟩) s.size (grownCap W s.size 0 5)] (Lib.bytesWorld W 5 s) fun e w' => ∃ v0_ : Value, e = .returned (v0_) ∧ Kd.R (Kd.int .u8) 5 w' W.heap.size (fun _ => True) v0_ (textB (bytesOf s)) ∧ Below W.heap.size W w' := by
  rw [bytesOf_length] at h
  have hb := bytes_below (Below.refl W.heap.size W) (Nat.le_refl _) 5 s
  refine h.mono ?_
  rintro e w' ⟨v, rfl, ho, hb2⟩
  exact ⟨v, rfl, Kd.R_lower ho hb.size, below_step hb hb2⟩
theorem bytes_row (s : ByteArray) (hs : s.size < 140737488355000) (W : World) : Rb (Lib.bytesWorld W 5 s) (some ⟨W.heap.size, 0, none⟩) (bytesOf s) := by
  have h := Kd.C_of_reads (d := (0 : Int)) (h1 := fun _ => rfl) (bytes_reads W 5 s (by omega))
  rw [← bytesOf_length s] at h
  exact h
theorem bytes_cap (s : ByteArray) (W : World) : (bytesOf s).length ≤ grownCap W s.size 0 5 := by
  rw [bytesOf_length]
  exact grownCap_ge W s.size 0 _
def tlv_TextS.f (s : ByteArray) : Option (List Int) := if s.size < 140737488355000 then some (textB (bytesOf s)) else none
theorem tlv_TextS.calls (s : ByteArray) (r : List Int) (W : World) (h : tlv_TextS.f s = some r) {g : Nat} (hg : g = W.heap.size := by first | (with_unfolding_all rfl) | simp) :
    Calls Try.prog 56 #[.slice (some ⟨g, 0, none⟩) s.size (grownCap W s.size 0 5)] (Lib.bytesWorld W 5 s) fun e w' => ∃ v0_ : Value, e = .returned (v0_) ∧ Kd.R (Kd.int .u8) 5 w' W.heap.size (fun _ => True) v0_ r ∧ Below W.heap.size W w' := by
  subst hg
  unfold tlv_TextS.f at h
  by_cases hs : s.size < 140737488355000
  · rw [if_pos hs] at h
    obtain rfl := Option.some.inj h
    exact textS_of s hs W (text_c _ _ (bytesOf s) _ (bytes_row s hs W) (bytes_cap s W) (by rw [bytesOf_length]; exact hs))
  · rw [if_neg hs] at h
    exact absurd h (by simp)
end Go.Proofs.Ytgdpabedlghiaaa.PZ
-- printed for this claim by a program (pall.sh)
-- mended by fixpz.py
namespace Go.Proofs.Ytgdpabedlghiaaa.PZ
open Go.RowKit Go.Proofs.YtgdpabedlghiaaaW.PrintWords Go.Proofs.YtgdpabedlghiaaaW.PrintLast Go.Proofs.YtgdpabedlghiaaaW.PrintMore
attribute [local go_sem] max2_int min2_int max_two min_two max_three min_three max_four min_four   -- for this text's walks alone
set_option linter.unusedVariables false
set_option linter.unusedSimpArgs false

/-! ### scope_put: function 67 -/
mutual
def scope_put.j0 : Nat → List Int → Int → ByteArray → Int → Int → List (S40) → Option (List Int)
 | 0, _, _, _, _, _, _ => none
 | k + 1, x3, x102000, x102001, x102002, x102003, x102004 => scope_put.l0 k x3 x102004 (x102004.length : Int) 0
def scope_put.l0 : Nat → List Int → List (S40) → Int → Int → Option (List Int)
 | 0, _, _, _, _ => none
 | k + 1, x3, x49, x50, x51 => if x51 < x50 then (if 0 ≤ x51 then (if x51 < (x49.length : Int) then ((scope_put.f k ((rd_T40 x49 x51).f0) ((rd_T40 x49 x51).f1) ((rd_T40 x49 x51).f2) ((rd_T40 x49 x51).f3) ((rd_T40 x49 x51).f4)).bind fun t138 => (if x3.length + t138.length < 140737488355328 then (scope_put.l0 k (x3 ++ t138) x49 x50 (wrap64 (x51 + 1))) else (none))) else (none)) else (none)) else (some x3)
def scope_put.f : Nat → Int → ByteArray → Int → Int → List (S40) → Option (List Int)
 | 0, _, _, _, _, _ => none
 | k + 1, a0_0, a0_1, a0_2, a0_3, l0_4 => (some (([(a0_0) % 256] : List Int) : List Int)).bind fun y102 => ((scope_named.f a0_0).bind fun t105 => (if t105 = true then ((tlv_TextS.f a0_1).bind fun t106 => (if y102.length + t106.length < 140737488355328 then (scope_put.j0 k (y102 ++ t106) a0_0 a0_1 a0_2 a0_3 l0_4) else (none))) else (if a0_0 = 5 then ((tlv_Int.f k a0_2).bind fun t112 => ((tlv_Int.f k a0_3).bind fun t115 => ((tlv_All.f k (([y102, t112, t115] : List (List Int)))).bind fun t121 => (scope_put.j0 k t121 a0_0 a0_1 a0_2 a0_3 l0_4)))) else (if a0_0 = 6 then ((tlv_Int.f k (l0_4.length : Int)).bind fun t124 => (if y102.length + t124.length < 140737488355328 then (scope_put.j0 k (y102 ++ t124) a0_0 a0_1 a0_2 a0_3 l0_4) else (none))) else (if a0_0 = 7 then ((tlv_Int.f k (l0_4.length : Int)).bind fun t130 => (if y102.length + t130.length < 140737488355328 then (scope_put.j0 k (y102 ++ t130) a0_0 a0_1 a0_2 a0_3 l0_4) else (none))) else (scope_put.j0 k y102 a0_0 a0_1 a0_2 a0_3 l0_4))))))
end
def scope_put.T5 : Bool × List (List Nat × List Nat) := (true, [([], []), ([], []), ([1], [1]), ([2], [2]), ([], []), ([4], [4]), ([5, 3], [5]), ([0, 3, 6], [0, 3, 6]), ([7, 6], [7]), ([8, 8, 0, 1, 2, 3, 4, 5, 6, 7, 8], [0, 8])])
def scope_put.B5 : List Nat := [0, 0, 2, 6, 0, 16, 62, 127, 255, 511]
theorem scope_put.tab5 : rtab .any (opsOf Try.f67 5) = scope_put.T5 := by kernel_rfl
theorem scope_put.bits5 : waitsOk scope_put.T5.2 scope_put.B5 = true := by kernel_rfl
set_option maxHeartbeats 8000000 in
set_option maxRecDepth 100000 in
theorem scope_put.calls (k : Nat) : ∀ (a0_0 : Int) (a0_1 : ByteArray) (a0_2 : Int) (a0_3 : Int) (A0_4 : Option Addr) (c0_4 : Nat) (l0_4 : List (S40)) (r : List Int) (w : World) (hr0_4 : Kd.C k40 w A0_4 l0_4.length l0_4) (hc0_4 : l0_4.length ≤ c0_4) (h : scope_put.f k a0_0 a0_1 a0_2 a0_3 l0_4 = some r),
  Calls Try.prog 67 #[.agg #[.int .i64 a0_0, .string a0_1, .int .i64 a0_2, .int .i64 a0_3, .slice A0_4 l0_4.length c0_4]] w fun e w' => ∃ v0_ : Value, e = .returned (v0_) ∧ Kd.R (Kd.int .u8) 5 w' w.heap.size (fun _ => True) v0_ r ∧ Below w.heap.size w w' := by
 induction k using Nat.strongRecOn with
 | _ k ih =>
 intro a0_0 a0_1 a0_2 a0_3 A0_4 c0_4 l0_4 r w hr0_4 hc0_4 h
 cases k with
 | zero => exact absurd h (by simp [scope_put.f])
 | succ k =>
 simp only [scope_put.f] at h
 have hu40 := Try.underlying40
 have HR0_4 := Aside0.mk hr0_4
 have HC0_4 := Aside0.mk hc0_4
 clear hr0_4 hc0_4
 have HB := Aside0.mk (Below.refl w.heap.size w)
 have H : ((some (([(a0_0) % 256] : List Int) : List Int)).bind fun y102 => ((scope_named.f a0_0).bind fun t105 => (if t105 = true then ((tlv_TextS.f a0_1).bind fun t106 => (if y102.length + t106.length < 140737488355328 then (scope_put.j0 k (y102 ++ t106) a0_0 a0_1 a0_2 a0_3 l0_4) else (none))) else (if a0_0 = 5 then ((tlv_Int.f k a0_2).bind fun t112 => ((tlv_Int.f k a0_3).bind fun t115 => ((tlv_All.f k (([y102, t112, t115] : List (List Int)))).bind fun t121 => (scope_put.j0 k t121 a0_0 a0_1 a0_2 a0_3 l0_4)))) else (if a0_0 = 6 then ((tlv_Int.f k (l0_4.length : Int)).bind fun t124 => (if y102.length + t124.length < 140737488355328 then (scope_put.j0 k (y102 ++ t124) a0_0 a0_1 a0_2 a0_3 l0_4) else (none))) else (if a0_0 = 7 then ((tlv_Int.f k (l0_4.length : Int)).bind fun t130 => (if y102.length + t130.length < 140737488355328 then (scope_put.j0 k (y102 ++ t130) a0_0 a0_1 a0_2 a0_3 l0_4) else (none))) else (scope_put.j0 k y102 a0_0 a0_1 a0_2 a0_3 l0_4))))))) = some r := h
 clear h
 obtain ⟨y102, hy102⟩ : ∃ y_ : List Int, y_ = (([(a0_0) % 256] : List Int)) := ⟨_, rfl⟩
 replace H : ((scope_named.f a0_0).bind fun t105 => (if t105 = true then ((tlv_TextS.f a0_1).bind fun t106 => (if y102.length + t106.length < 140737488355328 then (scope_put.j0 k (y102 ++ t106) a0_0 a0_1 a0_2 a0_3 l0_4) else (none))) else (if a0_0 = 5 then ((tlv_Int.f k a0_2).bind fun t112 => ((tlv_Int.f k a0_3).bind fun t115 => ((tlv_All.f k (([y102, t112, t115] : List (List Int)))).bind fun t121 => (scope_put.j0 k t121 a0_0 a0_1 a0_2 a0_3 l0_4)))) else (if a0_0 = 6 then ((tlv_Int.f k (l0_4.length : Int)).bind fun t124 => (if y102.length + t124.length < 140737488355328 then (scope_put.j0 k (y102 ++ t124) a0_0 a0_1 a0_2 a0_3 l0_4) else (none))) else (if a0_0 = 7 then ((tlv_Int.f k (l0_4.length : Int)).bind fun t130 => (if y102.length + t130.length < 140737488355328 then (scope_put.j0 k (y102 ++ t130) a0_0 a0_1 a0_2 a0_3 l0_4) else (none))) else (scope_put.j0 k y102 a0_0 a0_1 a0_2 a0_3 l0_4)))))) = some r := by first | (rw [hy102]; with_reducible exact H) | (have H2_ := (Option.bind_some _ _).symm.trans H; rw [hy102]; with_reducible exact H2_) | (have H2_ := (Option.bind_some _ _).symm.trans H; with_reducible exact H2_) | with_reducible exact H | (rw [hy102]; exact H) | exact H
 have Ny102 := Aside0.mk hy102
 clear hy102
 have HC2 := Aside0.mk H
 clear H
 go_enter Try.func67, Try.ntmps67
 go_upto_block 0 with (first | ((with_reducible refine gate_dst (N := 1) rfl ?_); refine box_event ?hg (N := 1) ?hd (cs := #[.int .i64 a0_0, .string a0_1, .int .i64 a0_2, .int .i64 a0_3, .slice A0_4 l0_4.length c0_4]) (t := 40) ?hr ?_; (case hd => rfl); (case hg => rfl); (case hr => first | (go_simp; done) | (go_simp; rfl)); intro gb101 hg w3 hbox hb; have n0_ := Aside0.mk (below_step (by repeat (first | (with_reducible first | exact HB.out | apply below_alloc | apply pw_below_drewN | apply below_drew1) | exact HB.out)) hb); have n1_ := Aside0.mk (hbox); have n2_ := Aside0.mk ((by rw [hg]; exact (below_size (by repeat (first | (with_reducible first | exact HB.out | apply below_alloc | apply pw_below_drewN | apply below_drew1) | exact HB.out))) : w.heap.size ≤ gb101)); have n3_ := Aside0.mk ((by rw [hg]; exact (below_size (by repeat (first | (with_reducible first | exact HB.out | apply below_alloc | apply pw_below_drewN | apply below_drew1) | exact HB.out))) : w.heap.size ≤ gb101)); clear HB; have HB := n0_; have BK101 := n1_; have GW101 := n2_; have GE101 := n3_; clear n0_ n1_ n2_ n3_; clear hb hbox hg; have hcz4_0 : w3.cell? ⟨gb101, 0, none⟩ = some (.int .i64 a0_0) := (blk_cell BK101.out 0).trans rfl; have hcz4_1 : w3.cell? ⟨gb101, 1, none⟩ = some (.string a0_1) := (blk_cell BK101.out 1).trans rfl; have hcz4_2 : w3.cell? ⟨gb101, 2, none⟩ = some (.int .i64 a0_2) := (blk_cell BK101.out 2).trans rfl; have hcz4_3 : w3.cell? ⟨gb101, 3, none⟩ = some (.int .i64 a0_3) := (blk_cell BK101.out 3).trans rfl; have hcz4_4 : w3.cell? ⟨gb101, 4, none⟩ = some (.slice A0_4 l0_4.length c0_4) := (blk_cell BK101.out 4).trans rfl; have hfz4_0 := blk_frozen BK101.out 0; have hfz4_1 := blk_frozen BK101.out 1; have hfz4_2 := blk_frozen BK101.out 2; have hfz4_3 := blk_frozen BK101.out 3; have hfz4_4 := blk_frozen BK101.out 4) | ((with_reducible refine gate_dst (N := 9) rfl ?_); refine Kd.R_lit (Kd.int .u8) _ 5 ?hg (N := 9) ?hd (xs := ([(a0_0) % 256] : List Int)) (inner := [.int .u8 ((a0_0) % 256)]) (ok := fun _ => True) (okp := fun _ => True) ?hr ?hp (fun _ hk => hk) trivial (Below.refl _ _) (Nat.le_refl _) (by simp) ?_; (case hd => rfl); (case hg => rfl); (case hr => first | (go_simp; done) | (go_simp; rfl)); (case hp => exact (Reps.one (show Kd.M (Kd.int .u8) _ _ _ ((a0_0) % 256) [.int .u8 ((a0_0) % 256)] from rfl) (Reps.none _ _))); intro v103 w5 ho6 hb hg_ hnew_; clear hg_ hnew_; (first | rw [← Ny102.out] at ho6 | (simp only [Int.reduceToNat] at ho6; rw [← Ny102.out] at ho6)); have n0_ := Aside0.mk (Kd.R_lower ho6 (below_size (by repeat (first | (with_reducible first | exact HB.out | apply below_alloc | apply pw_below_drewN | apply below_drew1 | refine below_set ?_ GE101.out) | exact HB.out)))); have n1_ := Aside0.mk (blk_below (g := gb101) (o := .cells #[.int .i64 a0_0, .string a0_1, .int .i64 a0_2, .int .i64 a0_3, .slice A0_4 l0_4.length c0_4] 40 (0, 0)) (by (with_reducible repeat (first | refine blk_drewN ?_ _ | refine blk_drew ?_ | refine blk_alloc ?_ _)); exact BK101.out) hb); have n2_ := Aside0.mk (below_step (by repeat (first | (with_reducible first | exact HB.out | apply below_alloc | apply pw_below_drewN | apply below_drew1 | refine below_set ?_ GE101.out) | exact HB.out)) hb); clear BK101; clear HB; have HO104 := n0_; have BK101 := n1_; have HB := n2_; clear n0_ n1_ n2_; clear hb ho6))
 (try simp only [Act.put, List.setIfInBounds_toArray, List.set_cons_zero, List.set_cons_succ])
 go_cut [3] (fun v3 wc => ∃ (kq : Nat) (x3_1 : List Int), Aside0 (scope_put.j0 kq x3_1 a0_0 a0_1 a0_2 a0_3 l0_4 = some r) ∧ Aside0 (kq ≤ k) ∧ Aside0 (Kd.R (Kd.int .u8) 5 wc w.heap.size (fun _ => True) v3 x3_1) ∧ Aside0 (wc.heap[gb101]? = some (.cells #[.int .i64 a0_0, .string a0_1, .int .i64 a0_2, .int .i64 a0_3, (.slice A0_4 l0_4.length c0_4)] 40 (0, 0))) ∧ Aside0 (Below w.heap.size w wc))
 case first =>
  have H := HC2.out
  clear HC2
  replace H := Option.bind_eq_some_iff.mp H
  obtain ⟨t105, A70, H⟩ := H
  replace H : (if t105 = true then ((tlv_TextS.f a0_1).bind fun t106 => (if y102.length + t106.length < 140737488355328 then (scope_put.j0 k (y102 ++ t106) a0_0 a0_1 a0_2 a0_3 l0_4) else (none))) else (if a0_0 = 5 then ((tlv_Int.f k a0_2).bind fun t112 => ((tlv_Int.f k a0_3).bind fun t115 => ((tlv_All.f k (([y102, t112, t115] : List (List Int)))).bind fun t121 => (scope_put.j0 k t121 a0_0 a0_1 a0_2 a0_3 l0_4)))) else (if a0_0 = 6 then ((tlv_Int.f k (l0_4.length : Int)).bind fun t124 => (if y102.length + t124.length < 140737488355328 then (scope_put.j0 k (y102 ++ t124) a0_0 a0_1 a0_2 a0_3 l0_4) else (none))) else (if a0_0 = 7 then ((tlv_Int.f k (l0_4.length : Int)).bind fun t130 => (if y102.length + t130.length < 140737488355328 then (scope_put.j0 k (y102 ++ t130) a0_0 a0_1 a0_2 a0_3 l0_4) else (none))) else (scope_put.j0 k y102 a0_0 a0_1 a0_2 a0_3 l0_4))))) = some r := H
  have A7 := Aside0.mk A70
  clear A70
  by_cases c8 : t105 = true
  ·subst c8
   have H1 : ((tlv_TextS.f a0_1).bind fun t106 => (if y102.length + t106.length < 140737488355328 then (scope_put.j0 k (y102 ++ t106) a0_0 a0_1 a0_2 a0_3 l0_4) else (none))) = some r := by rw [if_pos rfl] at H; exact H
   clear H
   have H := H1
   clear H1
   replace H := Option.bind_eq_some_iff.mp H
   obtain ⟨t106, A90, H⟩ := H
   replace H : (if y102.length + t106.length < 140737488355328 then (scope_put.j0 k (y102 ++ t106) a0_0 a0_1 a0_2 a0_3 l0_4) else (none)) = some r := H
   have A9 := Aside0.mk A90
   clear A90
   by_cases c10 : y102.length + t106.length < 140737488355328
   ·rw [if_pos c10] at H
    have LMc10 := Aside0.mk c10
    clear c10
    obtain ⟨y109, hy109⟩ : ∃ y_ : List Int, y_ = (y102 ++ t106) := ⟨_, rfl⟩
    replace H : (scope_put.j0 k y109 a0_0 a0_1 a0_2 a0_3 l0_4) = some r := by first | (rw [hy109]; with_reducible exact H) | (have H2_ := (Option.bind_some _ _).symm.trans H; rw [hy109]; with_reducible exact H2_) | (have H2_ := (Option.bind_some _ _).symm.trans H; with_reducible exact H2_) | with_reducible exact H | (rw [hy109]; exact H) | exact H
    have Ny109 := Aside0.mk hy109
    clear hy109
    have H' := Aside0.mk H
    clear H
    have hcz11_0 : w5.cell? ⟨gb101, 0, none⟩ = some (.int .i64 a0_0) := (blk_cell BK101.out 0).trans rfl
    have hcz11_1 : w5.cell? ⟨gb101, 1, none⟩ = some (.string a0_1) := (blk_cell BK101.out 1).trans rfl
    have hcz11_2 : w5.cell? ⟨gb101, 2, none⟩ = some (.int .i64 a0_2) := (blk_cell BK101.out 2).trans rfl
    have hcz11_3 : w5.cell? ⟨gb101, 3, none⟩ = some (.int .i64 a0_3) := (blk_cell BK101.out 3).trans rfl
    have hcz11_4 : w5.cell? ⟨gb101, 4, none⟩ = some (.slice A0_4 l0_4.length c0_4) := (blk_cell BK101.out 4).trans rfl
    have hfz11_0 := blk_frozen BK101.out 0
    have hfz11_1 := blk_frozen BK101.out 1
    have hfz11_2 := blk_frozen BK101.out 2
    have hfz11_3 := blk_frozen BK101.out 3
    have hfz11_4 := blk_frozen BK101.out 4
    go_wp2_with (first | ((with_reducible refine gate_callee (f := 109) rfl ?_); refine goesL_ (some 13) rfl rfl Try.func109 (by kernel_rfl) rfl #[.int .i64 a0_0] rfl (by (try simp only [List.map_toArray, List.map_cons, List.map_nil]); first | done | rfl | (simp only [List.length_drop, List.length_take]; rfl)) ?_; (with_reducible refine (scope_named.calls a0_0 true _ A7.out).mono ?_); rintro e w' ⟨rfl, ⟨nd, rfl⟩⟩; refine ⟨_, rfl, ?_⟩; have hkb12 := fun W => print_bytes (P := Try.prog) 9 27 5 Try.underlying9 Try.underlying27 Try.underlying5 a0_1 W) | (go_at_call 56; (with_reducible refine (tlv_TextS.calls a0_1 t106 _ A9.out).mono ?_); rintro e w13 ⟨v107, rfl, ho0, hb⟩; have n0_ := Aside0.mk (Kd.R_elder' (by (with_reducible repeat (first | apply Kd.R_alloc | apply Kd.R_drewN | apply Kd.R_drew)); exact HO104.out) (Kd.R_base ho0) hb); have n1_ := Aside0.mk (Kd.R_lower (Kd.R_new' ho0 (Kd.R_lt (by (with_reducible repeat (first | apply Kd.R_alloc | apply Kd.R_drewN | apply Kd.R_drew)); exact HO104.out))) (below_size (by repeat (first | (with_reducible first | exact HB.out | apply below_alloc | apply pw_below_drewN | apply below_drew1 | refine below_set ?_ GE101.out) | exact HB.out)))); have n2_ := Aside0.mk (blk_below (g := gb101) (o := .cells #[.int .i64 a0_0, .string a0_1, .int .i64 a0_2, .int .i64 a0_3, .slice A0_4 l0_4.length c0_4] 40 (0, 0)) (by (with_reducible repeat (first | refine blk_drewN ?_ _ | refine blk_drew ?_ | refine blk_alloc ?_ _)); exact BK101.out) hb); have n3_ := Aside0.mk (below_step (by repeat (first | (with_reducible first | exact HB.out | apply below_alloc | apply pw_below_drewN | apply below_drew1 | refine below_set ?_ GE101.out) | exact HB.out)) hb); clear HO104; clear BK101; clear HB; have HO104 := n0_; have HO108 := n1_; have BK101 := n2_; have HB := n3_; clear n0_ n1_ n2_ n3_; (try clear hb); (try clear hb2); (try clear hk); (try clear hi); (try clear ho0); obtain ⟨Ao15, co15, eo15⟩ := Kd.R_slice HO108.out; subst eo15) | ((with_reducible refine gate_builtin (b := .append) (xs := #[.tmp 14, .tmp 18]) rfl ?_); at_builtin; refine Kd.R_append_rows (Kd.int .u8) (w0 := w) w.heap.size rfl (.tmp 14) (.tmp 18) 27 5 (.int .u8 0) 1 rfl Try.underlying27 info5 rfl (by decide) (by omega) v103 y102 t106 _ _ _ (fun k_ => some k_ ≠ (.slice Ao15 t106.length co15 : Value).ownBlock) (fun _ => False) rfl rfl ?aO ?aR (fun _ _ h => h) (fun _ h => h.elim) ?aF ?aB ?aS ?aL ?_; (case aR => repeat (first | exact (Kd.R_reads' HO108.out).2.2 | (with_reducible refine Kd.C_alloc ?_ _) | (with_reducible refine Kd.C_drewN ?_ _) | (with_reducible refine Kd.C_drew ?_))); (case aB => exact (by repeat (first | (with_reducible first | exact HB.out | apply below_alloc | apply pw_below_drewN | apply below_drew1 | refine below_set ?_ GE101.out) | exact HB.out))); (case aF => exact (fun k_ hk => Kd.fresh' (Kd.R_lt (by (with_reducible repeat (first | apply Kd.R_alloc | apply Kd.R_drewN | apply Kd.R_drew)); exact HO108.out)) k_ hk)); (case aO => exact (by (with_reducible repeat (first | apply Kd.R_alloc | apply Kd.R_drewN | apply Kd.R_drew)); exact Kd.R_mono HO104.out (fun _ hk => hk.2))); (case aS => exact (below_size (by repeat (first | (with_reducible first | exact HB.out | apply below_alloc | apply pw_below_drewN | apply below_drew1 | refine below_set ?_ GE101.out) | exact HB.out)))); (case aL => have := LMc10.out; omega); intro v110 w14 ho hb hg hat; rw [← Ny109.out] at ho; have n0_ := Aside0.mk (blk_grown (g := gb101) (o := .cells #[.int .i64 a0_0, .string a0_1, .int .i64 a0_2, .int .i64 a0_3, .slice A0_4 l0_4.length c0_4] 40 (0, 0)) (by (with_reducible repeat (first | refine blk_drewN ?_ _ | refine blk_drew ?_ | refine blk_alloc ?_ _)); exact BK101.out) hg (Kd.R_ne HO104.out BK101.out (by decide))); have n1_ := Aside0.mk (Kd.R_after (ok := (fun _ => True)) (by (with_reducible repeat (first | apply Kd.R_alloc | apply Kd.R_drewN | apply Kd.R_drew)); exact HO108.out) hg hat); have n2_ := Aside0.mk (hb); have n3_ := Aside0.mk (ho); clear BK101; clear HO108; clear HB; clear HO104; have BK101 := n0_; have HO108 := n1_; have HB := n2_; have HO111 := n3_; clear n0_ n1_ n2_ n3_; clear ho hb hg hat))
    go_meet
    case rel => exact ⟨_, (y109), H', ⟨by first | omega | exact Nat.le_refl _⟩, ⟨by (with_reducible repeat (first | apply Kd.R_alloc | apply Kd.R_drewN | apply Kd.R_drew)); exact Kd.R_mono HO111.out (fun _ hk => trivial)⟩, ⟨by (with_reducible repeat (first | refine blk_drewN ?_ _ | refine blk_drew ?_ | refine blk_alloc ?_ _)); exact BK101.out⟩, ⟨by repeat (first | (with_reducible first | exact HB.out | apply below_alloc | apply pw_below_drewN | apply below_drew1 | refine below_set ?_ GE101.out) | exact HB.out)⟩⟩
   ·rw [if_neg c10] at H
    exact absurd H (by simp)
  ·replace c8 := Bool.eq_false_iff.mpr c8
   subst c8
   have H1 : (if a0_0 = 5 then ((tlv_Int.f k a0_2).bind fun t112 => ((tlv_Int.f k a0_3).bind fun t115 => ((tlv_All.f k (([y102, t112, t115] : List (List Int)))).bind fun t121 => (scope_put.j0 k t121 a0_0 a0_1 a0_2 a0_3 l0_4)))) else (if a0_0 = 6 then ((tlv_Int.f k (l0_4.length : Int)).bind fun t124 => (if y102.length + t124.length < 140737488355328 then (scope_put.j0 k (y102 ++ t124) a0_0 a0_1 a0_2 a0_3 l0_4) else (none))) else (if a0_0 = 7 then ((tlv_Int.f k (l0_4.length : Int)).bind fun t130 => (if y102.length + t130.length < 140737488355328 then (scope_put.j0 k (y102 ++ t130) a0_0 a0_1 a0_2 a0_3 l0_4) else (none))) else (scope_put.j0 k y102 a0_0 a0_1 a0_2 a0_3 l0_4)))) = some r := by rw [if_neg (show ¬ (false = true) by decide)] at H; exact H
   clear H
   have H := H1
   clear H1
   by_cases c16 : a0_0 = 5
   ·rw [if_pos c16] at H
    have c16b0 : (a0_0 == 5) = true := beq_iff_eq.mpr c16
    have c16b1 : (a0_0 != 5) = false := bne_eq_false_iff_eq.mpr c16
    clear c16
    (first | rw [c16b0] | (simp only [i64_w, i32_w]; rw [c16b0]) | skip)
    replace H := Option.bind_eq_some_iff.mp H
    obtain ⟨t112, A170, H⟩ := H
    replace H : ((tlv_Int.f k a0_3).bind fun t115 => ((tlv_All.f k (([y102, t112, t115] : List (List Int)))).bind fun t121 => (scope_put.j0 k t121 a0_0 a0_1 a0_2 a0_3 l0_4))) = some r := H
    have A17 := Aside0.mk A170
    clear A170
    replace H := Option.bind_eq_some_iff.mp H
    obtain ⟨t115, A180, H⟩ := H
    replace H : ((tlv_All.f k (([y102, t112, t115] : List (List Int)))).bind fun t121 => (scope_put.j0 k t121 a0_0 a0_1 a0_2 a0_3 l0_4)) = some r := H
    have A18 := Aside0.mk A180
    clear A180
    obtain ⟨y118, hy118⟩ : ∃ y_ : List (List Int), y_ = (([y102, t112, t115] : List (List Int))) := ⟨_, rfl⟩
    replace H : ((tlv_All.f k y118).bind fun t121 => (scope_put.j0 k t121 a0_0 a0_1 a0_2 a0_3 l0_4)) = some r := by first | (rw [hy118]; with_reducible exact H) | (have H2_ := (Option.bind_some _ _).symm.trans H; rw [hy118]; with_reducible exact H2_) | (have H2_ := (Option.bind_some _ _).symm.trans H; with_reducible exact H2_) | with_reducible exact H | (rw [hy118]; exact H) | exact H
    have Ny118 := Aside0.mk hy118
    clear hy118
    replace H := Option.bind_eq_some_iff.mp H
    obtain ⟨t121, A190, H⟩ := H
    replace H : (scope_put.j0 k t121 a0_0 a0_1 a0_2 a0_3 l0_4) = some r := H
    have A19 := Aside0.mk A190
    clear A190
    have H' := Aside0.mk H
    clear H
    have hcz20_0 : w5.cell? ⟨gb101, 0, none⟩ = some (.int .i64 a0_0) := (blk_cell BK101.out 0).trans rfl
    have hcz20_1 : w5.cell? ⟨gb101, 1, none⟩ = some (.string a0_1) := (blk_cell BK101.out 1).trans rfl
    have hcz20_2 : w5.cell? ⟨gb101, 2, none⟩ = some (.int .i64 a0_2) := (blk_cell BK101.out 2).trans rfl
    have hcz20_3 : w5.cell? ⟨gb101, 3, none⟩ = some (.int .i64 a0_3) := (blk_cell BK101.out 3).trans rfl
    have hcz20_4 : w5.cell? ⟨gb101, 4, none⟩ = some (.slice A0_4 l0_4.length c0_4) := (blk_cell BK101.out 4).trans rfl
    have hfz20_0 := blk_frozen BK101.out 0
    have hfz20_1 := blk_frozen BK101.out 1
    have hfz20_2 := blk_frozen BK101.out 2
    have hfz20_3 := blk_frozen BK101.out 3
    have hfz20_4 := blk_frozen BK101.out 4
    try go_wp2_with (first | ((with_reducible refine gate_callee (f := 109) rfl ?_); refine goesL_ (some 13) rfl rfl Try.func109 (by kernel_rfl) rfl #[.int .i64 a0_0] rfl (by (try simp only [List.map_toArray, List.map_cons, List.map_nil]); first | done | rfl | (simp only [List.length_drop, List.length_take]; rfl)) ?_; (with_reducible refine (scope_named.calls a0_0 false _ A7.out).mono ?_); rintro e w' ⟨rfl, ⟨nd, rfl⟩⟩; refine ⟨_, rfl, ?_⟩))
    (try (rw [drewN_self w5]; generalize hq_ : World.drewN w5 _ = w5; have n0_ : Aside0 (Kd.R (Kd.int .u8) 5 w5 w.heap.size (fun _ => True) v103 y102) := ⟨by rw [← hq_]; exact (by (with_reducible repeat (first | apply Kd.R_alloc | apply Kd.R_drewN | apply Kd.R_drew)); exact HO104.out)⟩; have n1_ : Aside0 (w5.heap[gb101]? = some (.cells #[.int .i64 a0_0, .string a0_1, .int .i64 a0_2, .int .i64 a0_3, .slice A0_4 l0_4.length c0_4] 40 (0, 0))) := ⟨by rw [← hq_]; exact (by (with_reducible repeat (first | refine blk_drewN ?_ _ | refine blk_drew ?_ | refine blk_alloc ?_ _)); exact BK101.out)⟩; have n2_ : Aside0 (Below w.heap.size w w5) := ⟨by rw [← hq_]; exact (by repeat (first | (with_reducible first | exact HB.out | apply below_alloc | apply pw_below_drewN | apply below_drew1 | refine below_set ?_ GE101.out) | exact HB.out))⟩; clear HO104 BK101 HB hq_; have HO104 := n0_; have BK101 := n1_; have HB := n2_; clear n0_ n1_ n2_))
    have n0_ := Aside0.mk (Kd.R_drew HO104.out)
    have n1_ := Aside0.mk (blk_drew BK101.out)
    have n2_ := Aside0.mk (below_drew1 HB.out)
    clear HO104
    clear BK101
    clear HB
    have HO104 := n0_
    have BK101 := n1_
    have HB := n2_
    clear n0_ n1_ n2_
    refine start_ (n := 10) (S := fun w' => w'.cell? ⟨gb101, 0, none⟩ = some (.int .i64 a0_0) ∧ w'.cell? ⟨gb101, 1, none⟩ = some (.string a0_1) ∧ w'.cell? ⟨gb101, 2, none⟩ = some (.int .i64 a0_2) ∧ w'.cell? ⟨gb101, 3, none⟩ = some (.int .i64 a0_3) ∧ w'.cell? ⟨gb101, 4, none⟩ = some (.slice A0_4 l0_4.length c0_4)) (ds := []) #[false, false, false, false, false, false, false, false, false, false] (by kernel_rfl) rfl rfl ⟨(blk_cell BK101.out 0).trans rfl, (blk_cell BK101.out 1).trans rfl, (blk_cell BK101.out 2).trans rfl, (blk_cell BK101.out 3).trans rfl, (blk_cell BK101.out 4).trans rfl⟩ (fun hHeld => ?_); refine with_tabW scope_put.tab5 scope_put.bits5 (fun HT_ HW_ => ?_)
    generalize w5.drew = w21 at HO104 BK101 HB hHeld ⊢
    refine pure_ (i := 0) (N := some 24) (v := ?_) (a' := ?_) #[true, false, false, false, false, false, false, false, false, false] rfl rfl (any_of HT_.out (by kernel_rfl)) (fun _ _ _ h => h) (Or.inl ⟨by rfl, ?_⟩) ?_ ?_
    rotate_left
    ·intro w'
     go_simp
     with_reducible rfl
    rotate_left
    ·simp only [Act.put, List.setIfInBounds_toArray, List.set_cons_zero, List.set_cons_succ, i64_w, i32_w]
     rfl
    refine pure_ (i := 1) (N := some 25) (v := ?_) (a' := ?_) #[true, true, false, false, false, false, false, false, false, false] rfl rfl (any_of HT_.out (by kernel_rfl)) (fun _ _ _ h => h) (Or.inl ⟨by rfl, ?_⟩) ?_ ?_
    rotate_left
    ·intro w'
     go_simp
     with_reducible rfl
    rotate_left
    ·simp only [Act.put, List.setIfInBounds_toArray, List.set_cons_zero, List.set_cons_succ, i64_w, i32_w]
     rfl
    refine pure_ (i := 4) (N := some 28) (v := ?_) (a' := ?_) #[true, true, false, false, true, false, false, false, false, false] rfl rfl (any_of HT_.out (by kernel_rfl)) (fun _ _ _ h => h) (Or.inl ⟨by rfl, ?_⟩) ?_ ?_
    rotate_left
    ·intro w'
     go_simp
     with_reducible rfl
    rotate_left
    ·simp only [Act.put, List.setIfInBounds_toArray, List.set_cons_zero, List.set_cons_succ, i64_w, i32_w]
     rfl
    refine take_ (i := 2) (N := some 26) (v := ?_) (a' := ?_) #[true, true, true, false, true, false, false, false, false, false] rfl rfl (take_ofW HT_.out HW_.out (by kernel_rfl)) (fun _ _ _ h => h) (Or.inl ⟨by rfl, ?_⟩) hHeld ?_ ?_
    rotate_left
    ·rintro w' ⟨s0, s1, s2, s3, s4⟩
     go_simp
     with_reducible rfl
    rotate_left
    ·simp only [Act.put, List.setIfInBounds_toArray, List.set_cons_zero, List.set_cons_succ, i64_w, i32_w]
     rfl
    refine take_ (i := 5) (N := some 29) (v := ?_) (a' := ?_) #[true, true, true, false, true, true, false, false, false, false] rfl rfl (take_ofW HT_.out HW_.out (by kernel_rfl)) (fun _ _ _ h => h) (Or.inl ⟨by rfl, ?_⟩) hHeld ?_ ?_
    rotate_left
    ·rintro w' ⟨s0, s1, s2, s3, s4⟩
     go_simp
     with_reducible rfl
    rotate_left
    ·simp only [Act.put, List.setIfInBounds_toArray, List.set_cons_zero, List.set_cons_succ, i64_w, i32_w]
     rfl
    refine one_ (i := 3) (N := some 27) #[true, true, true, true, true, true, false, false, false, false] rfl rfl (one_of HT_.out (by kernel_rfl)) (by decide) (fun K hK => ?_)
    refine goes_ Try.func57 (by kernel_rfl) rfl #[.int .i64 a0_2] (by rfl) rfl rfl (by (try simp only [List.map_toArray, List.map_cons, List.map_nil]); first | done | rfl | (simp only [List.length_drop, List.length_take]; rfl)) ?_
    with_reducible refine (tlv_Int.calls k a0_2 t112 _ A17.out).mono ?_
    rintro e w22 ⟨v113, rfl, ho0, hb⟩
    refine ⟨_, rfl, ?_⟩
    have n0_ := Aside0.mk (Kd.R_elder' (by (with_reducible repeat (first | apply Kd.R_alloc | apply Kd.R_drewN | apply Kd.R_drew)); exact HO104.out) (Kd.R_base ho0) hb)
    have n1_ := Aside0.mk (Kd.R_lower (Kd.R_new' ho0 (Kd.R_lt (by (with_reducible repeat (first | apply Kd.R_alloc | apply Kd.R_drewN | apply Kd.R_drew)); exact HO104.out))) (below_size (by repeat (first | (with_reducible first | exact HB.out | apply below_alloc | apply pw_below_drewN | apply below_drew1 | refine below_set ?_ GE101.out) | exact HB.out))))
    have n2_ := Aside0.mk (blk_below (g := gb101) (o := .cells #[.int .i64 a0_0, .string a0_1, .int .i64 a0_2, .int .i64 a0_3, .slice A0_4 l0_4.length c0_4] 40 (0, 0)) (by (with_reducible repeat (first | refine blk_drewN ?_ _ | refine blk_drew ?_ | refine blk_alloc ?_ _)); exact BK101.out) hb)
    have n3_ := Aside0.mk (below_step (by repeat (first | (with_reducible first | exact HB.out | apply below_alloc | apply pw_below_drewN | apply below_drew1 | refine below_set ?_ GE101.out) | exact HB.out)) hb)
    clear HO104
    clear BK101
    clear HB
    have HO104 := n0_
    have HO114 := n1_
    have BK101 := n2_
    have HB := n3_
    clear n0_ n1_ n2_ n3_
    (try clear hb)
    (try clear hb2)
    (try clear hk)
    (try clear hi)
    (try clear ho0)
    refine hK.out _ _ ⟨(blk_cell BK101.out 0).trans rfl, (blk_cell BK101.out 1).trans rfl, (blk_cell BK101.out 2).trans rfl, (blk_cell BK101.out 3).trans rfl, (blk_cell BK101.out 4).trans rfl⟩ (fun hHeld => ?_)
    clear hK K
    refine norm_ (a' := ?_) ?_ ?_
    rotate_left
    ·show Act.put _ (some 27) _ = _
     simp only [Act.put, List.setIfInBounds_toArray, List.set_cons_zero, List.set_cons_succ, i64_w, i32_w]
     rfl
    refine one_ (i := 6) (N := some 30) #[true, true, true, true, true, true, true, false, false, false] rfl rfl (one_of HT_.out (by kernel_rfl)) (by decide) (fun K hK => ?_)
    refine goes_ Try.func57 (by kernel_rfl) rfl #[.int .i64 a0_3] (by rfl) rfl rfl (by (try simp only [List.map_toArray, List.map_cons, List.map_nil]); first | done | rfl | (simp only [List.length_drop, List.length_take]; rfl)) ?_
    with_reducible refine (tlv_Int.calls k a0_3 t115 _ A18.out).mono ?_
    rintro e w23 ⟨v116, rfl, ho0, hb⟩
    refine ⟨_, rfl, ?_⟩
    have n0_ := Aside0.mk (Kd.R_elder' (by (with_reducible repeat (first | apply Kd.R_alloc | apply Kd.R_drewN | apply Kd.R_drew)); exact HO104.out) (Kd.R_base ho0) hb)
    have n1_ := Aside0.mk (Kd.R_elder' (by (with_reducible repeat (first | apply Kd.R_alloc | apply Kd.R_drewN | apply Kd.R_drew)); exact HO114.out) (Kd.R_base ho0) hb)
    have n2_ := Aside0.mk (Kd.R_lower (Kd.R_new' (Kd.R_new' ho0 (Kd.R_lt (by (with_reducible repeat (first | apply Kd.R_alloc | apply Kd.R_drewN | apply Kd.R_drew)); exact HO104.out))) (Kd.R_lt (by (with_reducible repeat (first | apply Kd.R_alloc | apply Kd.R_drewN | apply Kd.R_drew)); exact HO114.out))) (below_size (by repeat (first | (with_reducible first | exact HB.out | apply below_alloc | apply pw_below_drewN | apply below_drew1 | refine below_set ?_ GE101.out) | exact HB.out))))
    have n3_ := Aside0.mk (blk_below (g := gb101) (o := .cells #[.int .i64 a0_0, .string a0_1, .int .i64 a0_2, .int .i64 a0_3, .slice A0_4 l0_4.length c0_4] 40 (0, 0)) (by (with_reducible repeat (first | refine blk_drewN ?_ _ | refine blk_drew ?_ | refine blk_alloc ?_ _)); exact BK101.out) hb)
    have n4_ := Aside0.mk (below_step (by repeat (first | (with_reducible first | exact HB.out | apply below_alloc | apply pw_below_drewN | apply below_drew1 | refine below_set ?_ GE101.out) | exact HB.out)) hb)
    clear HO104
    clear HO114
    clear BK101
    clear HB
    have HO104 := n0_
    have HO114 := n1_
    have HO117 := n2_
    have BK101 := n3_
    have HB := n4_
    clear n0_ n1_ n2_ n3_ n4_
    (try clear hb)
    (try clear hb2)
    (try clear hk)
    (try clear hi)
    (try clear ho0)
    obtain ⟨Ao24, co24, eo24⟩ := Kd.R_slice HO104.out
    (first | subst eo24 | (injection eo24 with f1_ f2_ f3_; have f4_ := f1_.symm; have f5_ := f3_.symm; clear f1_ f2_ f3_; subst f4_; subst f5_))
    obtain ⟨Ao25, co25, eo25⟩ := Kd.R_slice HO114.out
    (first | subst eo25 | (injection eo25 with f1_ f2_ f3_; have f4_ := f1_.symm; have f5_ := f3_.symm; clear f1_ f2_ f3_; subst f4_; subst f5_))
    obtain ⟨Ao26, co26, eo26⟩ := Kd.R_slice HO117.out
    (first | subst eo26 | (injection eo26 with f1_ f2_ f3_; have f4_ := f1_.symm; have f5_ := f3_.symm; clear f1_ f2_ f3_; subst f4_; subst f5_))
    refine hK.out _ _ ⟨(blk_cell BK101.out 0).trans rfl, (blk_cell BK101.out 1).trans rfl, (blk_cell BK101.out 2).trans rfl, (blk_cell BK101.out 3).trans rfl, (blk_cell BK101.out 4).trans rfl⟩ (fun hHeld => ?_)
    clear hK K
    refine norm_ (a' := ?_) ?_ ?_
    rotate_left
    ·show Act.put _ (some 30) _ = _
     simp only [Act.put, List.setIfInBounds_toArray, List.set_cons_zero, List.set_cons_succ, i64_w, i32_w]
     rfl
    refine one_ (i := 7) (N := some 31) #[true, true, true, true, true, true, true, true, false, false] rfl rfl (one_of HT_.out (by kernel_rfl)) (by decide) (fun K hK => ?_)
    refine Kd.N_lit_step (Kd.slice 5 (Kd.int .u8)) _ 27 ?hg (N' := 31) ?hd (xs := ([y102, t112, t115] : List (List Int))) (inner := [.slice Ao24 y102.length co24, .slice Ao25 t112.length co25, .slice Ao26 t115.length co26]) (ok := (fun k_ => k_ ≠ gb101)) (okp := (fun k_ => k_ ≠ gb101)) ?hr ?hp (fun _ hk => hk) ((show ∀ k_, w23.heap.size ≤ k_ → (fun k_ => k_ ≠ gb101) k_ from fun k_ hk => Kd.freshB (g := gb101) (o := .cells #[.int .i64 a0_0, .string a0_1, .int .i64 a0_2, .int .i64 a0_3, .slice A0_4 l0_4.length c0_4] 40 (0, 0)) (by (with_reducible repeat (first | refine blk_drewN ?_ _ | refine blk_drew ?_ | refine blk_alloc ?_ _)); exact BK101.out) k_ hk) _ (Nat.le_refl _)) (Below.refl _ _) (Nat.le_refl _) (by simp) ?_; (case hd => rfl); (case hg => rfl); (case hr => first | (go_simp; done) | (go_simp; rfl)); (case hp => exact (Reps.one (show Kd.FK (Kd.slice 5 (Kd.int .u8)) _ _ y102 [.slice Ao24 y102.length co24] from (Kd.FK_slice_mk (Kd.R_reads' (Kd.R_mono (ok' := (fun k_ => k_ ≠ gb101)) (Kd.R_types (HO104.out) BK101.out (by decide)) (fun k_ hk => hk.2))).2.1 (Kd.R_F (Kd.R_mono (ok' := (fun k_ => k_ ≠ gb101)) (Kd.R_types (HO104.out) BK101.out (by decide)) (fun k_ hk => hk.2))))) (Reps.one (show Kd.FK (Kd.slice 5 (Kd.int .u8)) _ _ t112 [.slice Ao25 t112.length co25] from (Kd.FK_slice_mk (Kd.R_reads' (Kd.R_mono (ok' := (fun k_ => k_ ≠ gb101)) (Kd.R_types (HO114.out) BK101.out (by decide)) (fun k_ hk => hk.2))).2.1 (Kd.R_F (Kd.R_mono (ok' := (fun k_ => k_ ≠ gb101)) (Kd.R_types (HO114.out) BK101.out (by decide)) (fun k_ hk => hk.2))))) (Reps.one (show Kd.FK (Kd.slice 5 (Kd.int .u8)) _ _ t115 [.slice Ao26 t115.length co26] from (Kd.FK_slice_mk (Kd.R_reads' (Kd.R_mono (ok' := (fun k_ => k_ ≠ gb101)) (Kd.R_types (HO117.out) BK101.out (by decide)) (fun k_ hk => hk.2))).2.1 (Kd.R_F (Kd.R_mono (ok' := (fun k_ => k_ ≠ gb101)) (Kd.R_types (HO117.out) BK101.out (by decide)) (fun k_ hk => hk.2))))) (Reps.none _ _)))))
    intro v119 w27 ho28 hb hg_ hnew_
    clear hg_ hnew_
    (first | rw [← Ny118.out] at ho28 | (simp only [Int.reduceToNat] at ho28; rw [← Ny118.out] at ho28))
    have n0_ := Aside0.mk (Kd.N_lower ho28 (below_size (by repeat (first | (with_reducible first | exact HB.out | apply below_alloc | apply pw_below_drewN | apply below_drew1 | refine below_set ?_ GE101.out) | exact HB.out))))
    have n1_ := Aside0.mk (blk_below (g := gb101) (o := .cells #[.int .i64 a0_0, .string a0_1, .int .i64 a0_2, .int .i64 a0_3, .slice A0_4 l0_4.length c0_4] 40 (0, 0)) (by (with_reducible repeat (first | refine blk_drewN ?_ _ | refine blk_drew ?_ | refine blk_alloc ?_ _)); exact BK101.out) hb)
    have n2_ := Aside0.mk (below_step (by repeat (first | (with_reducible first | exact HB.out | apply below_alloc | apply pw_below_drewN | apply below_drew1 | refine below_set ?_ GE101.out) | exact HB.out)) hb)
    clear BK101
    clear HB
    clear HO104
    clear HO114
    clear HO117
    have HO120 := n0_
    have BK101 := n1_
    have HB := n2_
    clear n0_ n1_ n2_
    clear hb ho28
    obtain ⟨Ao29, co29, eo29⟩ := Kd.N_slice HO120.out
    (first | subst eo29 | (injection eo29 with f1_ f2_ f3_; have f4_ := f1_.symm; have f5_ := f3_.symm; clear f1_ f2_ f3_; subst f4_; subst f5_))
    refine hK.out _ _ ⟨(blk_cell BK101.out 0).trans rfl, (blk_cell BK101.out 1).trans rfl, (blk_cell BK101.out 2).trans rfl, (blk_cell BK101.out 3).trans rfl, (blk_cell BK101.out 4).trans rfl⟩ (fun hHeld => ?_)
    clear hK K
    refine norm_ (a' := ?_) ?_ ?_
    rotate_left
    ·show Act.put _ (some 31) _ = _
     simp only [Act.put, List.setIfInBounds_toArray, List.set_cons_zero, List.set_cons_succ, i64_w, i32_w]
     rfl
    refine one_ (i := 8) (N := some 32) #[true, true, true, true, true, true, true, true, true, false] rfl rfl (one_of HT_.out (by kernel_rfl)) (by decide) (fun K hK => ?_)
    refine goes_ Try.func55 (by kernel_rfl) rfl #[.slice Ao29 y118.length co29] (by rfl) rfl rfl (by (try simp only [List.map_toArray, List.map_cons, List.map_nil]); first | done | rfl | (simp only [List.length_drop, List.length_take]; rfl)) ?_
    with_reducible refine (tlv_All.calls k _ _ y118 t121 _ ?side1 ?side2 A19.out).mono ?_
    (case side1 => repeat (first | exact (Kd.N_reads' HO120.out).2.2 | (with_reducible refine Kd.C_alloc ?_ _) | (with_reducible refine Kd.C_drewN ?_ _) | (with_reducible refine Kd.C_drew ?_)))
    (case side2 => exact (Kd.N_reads' HO120.out).2.1)
    rintro e w30 ⟨v122, rfl, ho0, hb⟩
    refine ⟨_, rfl, ?_⟩
    have n0_ := Aside0.mk (Kd.N_elder' (by (with_reducible repeat (first | apply Kd.N_alloc | apply Kd.N_drewN | apply Kd.N_drew)); exact HO120.out) (Kd.R_base ho0) hb)
    have n1_ := Aside0.mk (Kd.R_lower ho0 (below_size (by repeat (first | (with_reducible first | exact HB.out | apply below_alloc | apply pw_below_drewN | apply below_drew1 | refine below_set ?_ GE101.out) | exact HB.out))))
    have n2_ := Aside0.mk (blk_below (g := gb101) (o := .cells #[.int .i64 a0_0, .string a0_1, .int .i64 a0_2, .int .i64 a0_3, .slice A0_4 l0_4.length c0_4] 40 (0, 0)) (by (with_reducible repeat (first | refine blk_drewN ?_ _ | refine blk_drew ?_ | refine blk_alloc ?_ _)); exact BK101.out) hb)
    have n3_ := Aside0.mk (below_step (by repeat (first | (with_reducible first | exact HB.out | apply below_alloc | apply pw_below_drewN | apply below_drew1 | refine below_set ?_ GE101.out) | exact HB.out)) hb)
    clear HO120
    clear BK101
    clear HB
    have HO120 := n0_
    have HO123 := n1_
    have BK101 := n2_
    have HB := n3_
    clear n0_ n1_ n2_ n3_
    (try clear hb)
    (try clear hb2)
    (try clear hk)
    (try clear hi)
    (try clear ho0)
    refine hK.out _ _ ⟨(blk_cell BK101.out 0).trans rfl, (blk_cell BK101.out 1).trans rfl, (blk_cell BK101.out 2).trans rfl, (blk_cell BK101.out 3).trans rfl, (blk_cell BK101.out 4).trans rfl⟩ (fun hHeld => ?_)
    clear hK K
    refine norm_ (a' := ?_) ?_ ?_
    rotate_left
    ·show Act.put _ (some 32) _ = _
     simp only [Act.put, List.setIfInBounds_toArray, List.set_cons_zero, List.set_cons_succ, i64_w, i32_w]
     rfl
    refine pure_ (i := 9) (N := some 3) (v := ?_) (a' := ?_) #[true, true, true, true, true, true, true, true, true, true] rfl rfl (any_of HT_.out (by kernel_rfl)) (fun _ _ _ h => h) (Or.inl ⟨by rfl, ?_⟩) ?_ ?_
    rotate_left
    ·intro w'
     go_simp
     with_reducible rfl
    rotate_left
    ·simp only [Act.put, List.setIfInBounds_toArray, List.set_cons_zero, List.set_cons_succ, i64_w, i32_w]
     rfl
    refine done_ (done_of HT_.out (by kernel_rfl)) ?_
    try go_wp2
    go_meet
    case rel => exact ⟨_, (t121), H', ⟨by first | omega | exact Nat.le_refl _⟩, ⟨by (with_reducible repeat (first | apply Kd.R_alloc | apply Kd.R_drewN | apply Kd.R_drew)); exact HO123.out⟩, ⟨by (with_reducible repeat (first | refine blk_drewN ?_ _ | refine blk_drew ?_ | refine blk_alloc ?_ _)); exact BK101.out⟩, ⟨by repeat (first | (with_reducible first | exact HB.out | apply below_alloc | apply pw_below_drewN | apply below_drew1 | refine below_set ?_ GE101.out) | exact HB.out)⟩⟩
   ·rw [if_neg c16] at H
    have c16b0 : (a0_0 == 5) = false := beq_eq_false_iff_ne.mpr c16
    have c16b1 : (a0_0 != 5) = true := bne_iff_ne.mpr c16
    (first | rw [c16b0] | (simp only [i64_w, i32_w]; rw [c16b0]) | skip)
    by_cases c31 : a0_0 = 6
    ·rw [if_pos c31] at H
     have c31b0 : (a0_0 == 6) = true := beq_iff_eq.mpr c31
     have c31b1 : (a0_0 != 6) = false := bne_eq_false_iff_eq.mpr c31
     clear c31
     replace H := Option.bind_eq_some_iff.mp H
     obtain ⟨t124, A320, H⟩ := H
     replace H : (if y102.length + t124.length < 140737488355328 then (scope_put.j0 k (y102 ++ t124) a0_0 a0_1 a0_2 a0_3 l0_4) else (none)) = some r := H
     have A32 := Aside0.mk A320
     clear A320
     by_cases c33 : y102.length + t124.length < 140737488355328
     ·rw [if_pos c33] at H
      have LMc33 := Aside0.mk c33
      clear c33
      obtain ⟨y127, hy127⟩ : ∃ y_ : List Int, y_ = (y102 ++ t124) := ⟨_, rfl⟩
      replace H : (scope_put.j0 k y127 a0_0 a0_1 a0_2 a0_3 l0_4) = some r := by first | (rw [hy127]; with_reducible exact H) | (have H2_ := (Option.bind_some _ _).symm.trans H; rw [hy127]; with_reducible exact H2_) | (have H2_ := (Option.bind_some _ _).symm.trans H; with_reducible exact H2_) | with_reducible exact H | (rw [hy127]; exact H) | exact H
      have Ny127 := Aside0.mk hy127
      clear hy127
      have H' := Aside0.mk H
      clear H
      have hcz34_0 : w5.cell? ⟨gb101, 0, none⟩ = some (.int .i64 a0_0) := (blk_cell BK101.out 0).trans rfl
      have hcz34_1 : w5.cell? ⟨gb101, 1, none⟩ = some (.string a0_1) := (blk_cell BK101.out 1).trans rfl
      have hcz34_2 : w5.cell? ⟨gb101, 2, none⟩ = some (.int .i64 a0_2) := (blk_cell BK101.out 2).trans rfl
      have hcz34_3 : w5.cell? ⟨gb101, 3, none⟩ = some (.int .i64 a0_3) := (blk_cell BK101.out 3).trans rfl
      have hcz34_4 : w5.cell? ⟨gb101, 4, none⟩ = some (.slice A0_4 l0_4.length c0_4) := (blk_cell BK101.out 4).trans rfl
      have hfz34_0 := blk_frozen BK101.out 0
      have hfz34_1 := blk_frozen BK101.out 1
      have hfz34_2 := blk_frozen BK101.out 2
      have hfz34_3 := blk_frozen BK101.out 3
      have hfz34_4 := blk_frozen BK101.out 4
      go_wp2_with (first | ((with_reducible refine gate_callee (f := 109) rfl ?_); refine goesL_ (some 13) rfl rfl Try.func109 (by kernel_rfl) rfl #[.int .i64 a0_0] rfl (by (try simp only [List.map_toArray, List.map_cons, List.map_nil]); first | done | rfl | (simp only [List.length_drop, List.length_take]; rfl)) ?_; (with_reducible refine (scope_named.calls a0_0 false _ A7.out).mono ?_); rintro e w' ⟨rfl, ⟨nd, rfl⟩⟩; refine ⟨_, rfl, ?_⟩) | ((with_reducible refine gate_callee (f := 57) rfl ?_); refine goesL_ (some 46) rfl rfl Try.func57 (by kernel_rfl) rfl #[.int .i64 (l0_4.length : Int)] rfl (by (try simp only [List.map_toArray, List.map_cons, List.map_nil]); first | done | rfl | (simp only [List.length_drop, List.length_take]; rfl)) ?_; (with_reducible refine (tlv_Int.calls k (l0_4.length : Int) t124 _ A32.out).mono ?_); rintro e w35 ⟨v125, rfl, ho0, hb⟩; refine ⟨_, rfl, ?_⟩; have n0_ := Aside0.mk (Kd.R_elder' (by (with_reducible repeat (first | apply Kd.R_alloc | apply Kd.R_drewN | apply Kd.R_drew)); exact HO104.out) (Kd.R_base ho0) hb); have n1_ := Aside0.mk (Kd.R_lower (Kd.R_new' ho0 (Kd.R_lt (by (with_reducible repeat (first | apply Kd.R_alloc | apply Kd.R_drewN | apply Kd.R_drew)); exact HO104.out))) (below_size (by repeat (first | (with_reducible first | exact HB.out | apply below_alloc | apply pw_below_drewN | apply below_drew1 | refine below_set ?_ GE101.out) | exact HB.out)))); have n2_ := Aside0.mk (blk_below (g := gb101) (o := .cells #[.int .i64 a0_0, .string a0_1, .int .i64 a0_2, .int .i64 a0_3, .slice A0_4 l0_4.length c0_4] 40 (0, 0)) (by (with_reducible repeat (first | refine blk_drewN ?_ _ | refine blk_drew ?_ | refine blk_alloc ?_ _)); exact BK101.out) hb); have n3_ := Aside0.mk (below_step (by repeat (first | (with_reducible first | exact HB.out | apply below_alloc | apply pw_below_drewN | apply below_drew1 | refine below_set ?_ GE101.out) | exact HB.out)) hb); clear HO104; clear BK101; clear HB; have HO104 := n0_; have HO126 := n1_; have BK101 := n2_; have HB := n3_; clear n0_ n1_ n2_ n3_; (try clear hb); (try clear hb2); (try clear hk); (try clear hi); (try clear ho0); obtain ⟨Ao37, co37, eo37⟩ := Kd.R_slice HO126.out; subst eo37) | ((with_reducible refine gate_builtin (b := .append) (xs := #[.tmp 42, .tmp 46]) rfl ?_); at_builtin; refine Kd.R_append_rows (Kd.int .u8) (w0 := w) w.heap.size rfl (.tmp 42) (.tmp 46) 27 5 (.int .u8 0) 1 rfl Try.underlying27 info5 rfl (by decide) (by omega) v103 y102 t124 _ _ _ (fun k_ => some k_ ≠ (.slice Ao37 t124.length co37 : Value).ownBlock) (fun _ => False) rfl rfl ?aO ?aR (fun _ _ h => h) (fun _ h => h.elim) ?aF ?aB ?aS ?aL ?_; (case aR => repeat (first | exact (Kd.R_reads' HO126.out).2.2 | (with_reducible refine Kd.C_alloc ?_ _) | (with_reducible refine Kd.C_drewN ?_ _) | (with_reducible refine Kd.C_drew ?_))); (case aB => exact (by repeat (first | (with_reducible first | exact HB.out | apply below_alloc | apply pw_below_drewN | apply below_drew1 | refine below_set ?_ GE101.out) | exact HB.out))); (case aF => exact (fun k_ hk => Kd.fresh' (Kd.R_lt (by (with_reducible repeat (first | apply Kd.R_alloc | apply Kd.R_drewN | apply Kd.R_drew)); exact HO126.out)) k_ hk)); (case aO => exact (by (with_reducible repeat (first | apply Kd.R_alloc | apply Kd.R_drewN | apply Kd.R_drew)); exact Kd.R_mono HO104.out (fun _ hk => hk.2))); (case aS => exact (below_size (by repeat (first | (with_reducible first | exact HB.out | apply below_alloc | apply pw_below_drewN | apply below_drew1 | refine below_set ?_ GE101.out) | exact HB.out)))); (case aL => have := LMc33.out; omega); intro v128 w36 ho hb hg hat; rw [← Ny127.out] at ho; have n0_ := Aside0.mk (blk_grown (g := gb101) (o := .cells #[.int .i64 a0_0, .string a0_1, .int .i64 a0_2, .int .i64 a0_3, .slice A0_4 l0_4.length c0_4] 40 (0, 0)) (by (with_reducible repeat (first | refine blk_drewN ?_ _ | refine blk_drew ?_ | refine blk_alloc ?_ _)); exact BK101.out) hg (Kd.R_ne HO104.out BK101.out (by decide))); have n1_ := Aside0.mk (Kd.R_after (ok := (fun _ => True)) (by (with_reducible repeat (first | apply Kd.R_alloc | apply Kd.R_drewN | apply Kd.R_drew)); exact HO126.out) hg hat); have n2_ := Aside0.mk (hb); have n3_ := Aside0.mk (ho); clear BK101; clear HO126; clear HB; clear HO104; have BK101 := n0_; have HO126 := n1_; have HB := n2_; have HO129 := n3_; clear n0_ n1_ n2_ n3_; clear ho hb hg hat))
      go_meet
      case rel => exact ⟨_, (y127), H', ⟨by first | omega | exact Nat.le_refl _⟩, ⟨by (with_reducible repeat (first | apply Kd.R_alloc | apply Kd.R_drewN | apply Kd.R_drew)); exact Kd.R_mono HO129.out (fun _ hk => trivial)⟩, ⟨by (with_reducible repeat (first | refine blk_drewN ?_ _ | refine blk_drew ?_ | refine blk_alloc ?_ _)); exact BK101.out⟩, ⟨by repeat (first | (with_reducible first | exact HB.out | apply below_alloc | apply pw_below_drewN | apply below_drew1 | refine below_set ?_ GE101.out) | exact HB.out)⟩⟩
     ·rw [if_neg c33] at H
      exact absurd H (by simp)
    ·rw [if_neg c31] at H
     have c31b0 : (a0_0 == 6) = false := beq_eq_false_iff_ne.mpr c31
     have c31b1 : (a0_0 != 6) = true := bne_iff_ne.mpr c31
     by_cases c38 : a0_0 = 7
     ·rw [if_pos c38] at H
      have c38b0 : (a0_0 == 7) = true := beq_iff_eq.mpr c38
      have c38b1 : (a0_0 != 7) = false := bne_eq_false_iff_eq.mpr c38
      clear c38
      replace H := Option.bind_eq_some_iff.mp H
      obtain ⟨t130, A390, H⟩ := H
      replace H : (if y102.length + t130.length < 140737488355328 then (scope_put.j0 k (y102 ++ t130) a0_0 a0_1 a0_2 a0_3 l0_4) else (none)) = some r := H
      have A39 := Aside0.mk A390
      clear A390
      by_cases c40 : y102.length + t130.length < 140737488355328
      ·rw [if_pos c40] at H
       have LMc40 := Aside0.mk c40
       clear c40
       obtain ⟨y133, hy133⟩ : ∃ y_ : List Int, y_ = (y102 ++ t130) := ⟨_, rfl⟩
       replace H : (scope_put.j0 k y133 a0_0 a0_1 a0_2 a0_3 l0_4) = some r := by first | (rw [hy133]; with_reducible exact H) | (have H2_ := (Option.bind_some _ _).symm.trans H; rw [hy133]; with_reducible exact H2_) | (have H2_ := (Option.bind_some _ _).symm.trans H; with_reducible exact H2_) | with_reducible exact H | (rw [hy133]; exact H) | exact H
       have Ny133 := Aside0.mk hy133
       clear hy133
       have H' := Aside0.mk H
       clear H
       have hcz41_0 : w5.cell? ⟨gb101, 0, none⟩ = some (.int .i64 a0_0) := (blk_cell BK101.out 0).trans rfl
       have hcz41_1 : w5.cell? ⟨gb101, 1, none⟩ = some (.string a0_1) := (blk_cell BK101.out 1).trans rfl
       have hcz41_2 : w5.cell? ⟨gb101, 2, none⟩ = some (.int .i64 a0_2) := (blk_cell BK101.out 2).trans rfl
       have hcz41_3 : w5.cell? ⟨gb101, 3, none⟩ = some (.int .i64 a0_3) := (blk_cell BK101.out 3).trans rfl
       have hcz41_4 : w5.cell? ⟨gb101, 4, none⟩ = some (.slice A0_4 l0_4.length c0_4) := (blk_cell BK101.out 4).trans rfl
       have hfz41_0 := blk_frozen BK101.out 0
       have hfz41_1 := blk_frozen BK101.out 1
       have hfz41_2 := blk_frozen BK101.out 2
       have hfz41_3 := blk_frozen BK101.out 3
       have hfz41_4 := blk_frozen BK101.out 4
       go_wp2_with (first | ((with_reducible refine gate_callee (f := 109) rfl ?_); refine goesL_ (some 13) rfl rfl Try.func109 (by kernel_rfl) rfl #[.int .i64 a0_0] rfl (by (try simp only [List.map_toArray, List.map_cons, List.map_nil]); first | done | rfl | (simp only [List.length_drop, List.length_take]; rfl)) ?_; (with_reducible refine (scope_named.calls a0_0 false _ A7.out).mono ?_); rintro e w' ⟨rfl, ⟨nd, rfl⟩⟩; refine ⟨_, rfl, ?_⟩) | ((with_reducible refine gate_callee (f := 57) rfl ?_); refine goesL_ (some 46) rfl rfl Try.func57 (by kernel_rfl) rfl #[.int .i64 (l0_4.length : Int)] rfl (by (try simp only [List.map_toArray, List.map_cons, List.map_nil]); first | done | rfl | (simp only [List.length_drop, List.length_take]; rfl)) ?_; (with_reducible refine (tlv_Int.calls k (l0_4.length : Int) t130 _ A39.out).mono ?_); rintro e w42 ⟨v131, rfl, ho0, hb⟩; refine ⟨_, rfl, ?_⟩; have n0_ := Aside0.mk (Kd.R_elder' (by (with_reducible repeat (first | apply Kd.R_alloc | apply Kd.R_drewN | apply Kd.R_drew)); exact HO104.out) (Kd.R_base ho0) hb); have n1_ := Aside0.mk (Kd.R_lower (Kd.R_new' ho0 (Kd.R_lt (by (with_reducible repeat (first | apply Kd.R_alloc | apply Kd.R_drewN | apply Kd.R_drew)); exact HO104.out))) (below_size (by repeat (first | (with_reducible first | exact HB.out | apply below_alloc | apply pw_below_drewN | apply below_drew1 | refine below_set ?_ GE101.out) | exact HB.out)))); have n2_ := Aside0.mk (blk_below (g := gb101) (o := .cells #[.int .i64 a0_0, .string a0_1, .int .i64 a0_2, .int .i64 a0_3, .slice A0_4 l0_4.length c0_4] 40 (0, 0)) (by (with_reducible repeat (first | refine blk_drewN ?_ _ | refine blk_drew ?_ | refine blk_alloc ?_ _)); exact BK101.out) hb); have n3_ := Aside0.mk (below_step (by repeat (first | (with_reducible first | exact HB.out | apply below_alloc | apply pw_below_drewN | apply below_drew1 | refine below_set ?_ GE101.out) | exact HB.out)) hb); clear HO104; clear BK101; clear HB; have HO104 := n0_; have HO132 := n1_; have BK101 := n2_; have HB := n3_; clear n0_ n1_ n2_ n3_; (try clear hb); (try clear hb2); (try clear hk); (try clear hi); (try clear ho0); obtain ⟨Ao44, co44, eo44⟩ := Kd.R_slice HO132.out; subst eo44) | ((with_reducible refine gate_builtin (b := .append) (xs := #[.tmp 42, .tmp 46]) rfl ?_); at_builtin; refine Kd.R_append_rows (Kd.int .u8) (w0 := w) w.heap.size rfl (.tmp 42) (.tmp 46) 27 5 (.int .u8 0) 1 rfl Try.underlying27 info5 rfl (by decide) (by omega) v103 y102 t130 _ _ _ (fun k_ => some k_ ≠ (.slice Ao44 t130.length co44 : Value).ownBlock) (fun _ => False) rfl rfl ?aO ?aR (fun _ _ h => h) (fun _ h => h.elim) ?aF ?aB ?aS ?aL ?_; (case aR => repeat (first | exact (Kd.R_reads' HO132.out).2.2 | (with_reducible refine Kd.C_alloc ?_ _) | (with_reducible refine Kd.C_drewN ?_ _) | (with_reducible refine Kd.C_drew ?_))); (case aB => exact (by repeat (first | (with_reducible first | exact HB.out | apply below_alloc | apply pw_below_drewN | apply below_drew1 | refine below_set ?_ GE101.out) | exact HB.out))); (case aF => exact (fun k_ hk => Kd.fresh' (Kd.R_lt (by (with_reducible repeat (first | apply Kd.R_alloc | apply Kd.R_drewN | apply Kd.R_drew)); exact HO132.out)) k_ hk)); (case aO => exact (by (with_reducible repeat (first | apply Kd.R_alloc | apply Kd.R_drewN | apply Kd.R_drew)); exact Kd.R_mono HO104.out (fun _ hk => hk.2))); (case aS => exact (below_size (by repeat (first | (with_reducible first | exact HB.out | apply below_alloc | apply pw_below_drewN | apply below_drew1 | refine below_set ?_ GE101.out) | exact HB.out)))); (case aL => have := LMc40.out; omega); intro v134 w43 ho hb hg hat; rw [← Ny133.out] at ho; have n0_ := Aside0.mk (blk_grown (g := gb101) (o := .cells #[.int .i64 a0_0, .string a0_1, .int .i64 a0_2, .int .i64 a0_3, .slice A0_4 l0_4.length c0_4] 40 (0, 0)) (by (with_reducible repeat (first | refine blk_drewN ?_ _ | refine blk_drew ?_ | refine blk_alloc ?_ _)); exact BK101.out) hg (Kd.R_ne HO104.out BK101.out (by decide))); have n1_ := Aside0.mk (Kd.R_after (ok := (fun _ => True)) (by (with_reducible repeat (first | apply Kd.R_alloc | apply Kd.R_drewN | apply Kd.R_drew)); exact HO132.out) hg hat); have n2_ := Aside0.mk (hb); have n3_ := Aside0.mk (ho); clear BK101; clear HO132; clear HB; clear HO104; have BK101 := n0_; have HO132 := n1_; have HB := n2_; have HO135 := n3_; clear n0_ n1_ n2_ n3_; clear ho hb hg hat))
       go_meet
       case rel => exact ⟨_, (y133), H', ⟨by first | omega | exact Nat.le_refl _⟩, ⟨by (with_reducible repeat (first | apply Kd.R_alloc | apply Kd.R_drewN | apply Kd.R_drew)); exact Kd.R_mono HO135.out (fun _ hk => trivial)⟩, ⟨by (with_reducible repeat (first | refine blk_drewN ?_ _ | refine blk_drew ?_ | refine blk_alloc ?_ _)); exact BK101.out⟩, ⟨by repeat (first | (with_reducible first | exact HB.out | apply below_alloc | apply pw_below_drewN | apply below_drew1 | refine below_set ?_ GE101.out) | exact HB.out)⟩⟩
      ·rw [if_neg c40] at H
       exact absurd H (by simp)
     ·rw [if_neg c38] at H
      have c38b0 : (a0_0 == 7) = false := beq_eq_false_iff_ne.mpr c38
      have c38b1 : (a0_0 != 7) = true := bne_iff_ne.mpr c38
      have H' := Aside0.mk H
      clear H
      have hcz45_0 : w5.cell? ⟨gb101, 0, none⟩ = some (.int .i64 a0_0) := (blk_cell BK101.out 0).trans rfl
      have hcz45_1 : w5.cell? ⟨gb101, 1, none⟩ = some (.string a0_1) := (blk_cell BK101.out 1).trans rfl
      have hcz45_2 : w5.cell? ⟨gb101, 2, none⟩ = some (.int .i64 a0_2) := (blk_cell BK101.out 2).trans rfl
      have hcz45_3 : w5.cell? ⟨gb101, 3, none⟩ = some (.int .i64 a0_3) := (blk_cell BK101.out 3).trans rfl
      have hcz45_4 : w5.cell? ⟨gb101, 4, none⟩ = some (.slice A0_4 l0_4.length c0_4) := (blk_cell BK101.out 4).trans rfl
      have hfz45_0 := blk_frozen BK101.out 0
      have hfz45_1 := blk_frozen BK101.out 1
      have hfz45_2 := blk_frozen BK101.out 2
      have hfz45_3 := blk_frozen BK101.out 3
      have hfz45_4 := blk_frozen BK101.out 4
      go_wp2_with (first | ((with_reducible refine gate_callee (f := 109) rfl ?_); refine goesL_ (some 13) rfl rfl Try.func109 (by kernel_rfl) rfl #[.int .i64 a0_0] rfl (by (try simp only [List.map_toArray, List.map_cons, List.map_nil]); first | done | rfl | (simp only [List.length_drop, List.length_take]; rfl)) ?_; (with_reducible refine (scope_named.calls a0_0 false _ A7.out).mono ?_); rintro e w' ⟨rfl, ⟨nd, rfl⟩⟩; refine ⟨_, rfl, ?_⟩))
      go_meet
      case rel => exact ⟨_, (y102), H', ⟨by first | omega | exact Nat.le_refl _⟩, ⟨by (with_reducible repeat (first | apply Kd.R_alloc | apply Kd.R_drewN | apply Kd.R_drew)); exact HO104.out⟩, ⟨by (with_reducible repeat (first | refine blk_drewN ?_ _ | refine blk_drew ?_ | refine blk_alloc ?_ _)); exact BK101.out⟩, ⟨by repeat (first | (with_reducible first | exact HB.out | apply below_alloc | apply pw_below_drewN | apply below_drew1 | refine below_set ?_ GE101.out) | exact HB.out)⟩⟩
 case rest =>
  clear HC2
  (try clear c1);(try clear p2);(try clear c3);(try clear c4);(try clear c5);(try clear c6);(try clear c8);(try clear c10);(try clear c16);(try clear c16b0);(try clear c16b1);(try clear c31);(try clear c31b0);(try clear c31b1);(try clear c33);(try clear c38);(try clear c38b0);(try clear c38b1);(try clear c40);(try clear hcz11_0);(try clear hcz11_1);(try clear hcz11_2);(try clear hcz11_3);(try clear hcz11_4);(try clear hcz20_0);(try clear hcz20_1);(try clear hcz20_2);(try clear hcz20_3);(try clear hcz20_4);(try clear hcz34_0);(try clear hcz34_1);(try clear hcz34_2);(try clear hcz34_3);(try clear hcz34_4);(try clear hcz41_0);(try clear hcz41_1);(try clear hcz41_2);(try clear hcz41_3);(try clear hcz41_4);(try clear hcz45_0);(try clear hcz45_1);(try clear hcz45_2);(try clear hcz45_3);(try clear hcz45_4);(try clear hcz4_0);(try clear hcz4_1);(try clear hcz4_2);(try clear hcz4_3);(try clear hcz4_4);(try clear hfz11_0);(try clear hfz11_1);(try clear hfz11_2);(try clear hfz11_3);(try clear hfz11_4);(try clear hfz20_0);(try clear hfz20_1);(try clear hfz20_2);(try clear hfz20_3);(try clear hfz20_4);(try clear hfz34_0);(try clear hfz34_1);(try clear hfz34_2);(try clear hfz34_3);(try clear hfz34_4);(try clear hfz41_0);(try clear hfz41_1);(try clear hfz41_2);(try clear hfz41_3);(try clear hfz41_4);(try clear hfz45_0);(try clear hfz45_1);(try clear hfz45_2);(try clear hfz45_3);(try clear hfz45_4);(try clear hfz4_0);(try clear hfz4_1);(try clear hfz4_2);(try clear hfz4_3);(try clear hfz4_4)
  obtain ⟨kq, x3_1, HA, HJ1, HO_3, BK101, HB⟩ := hcut
  cases kq with
  | zero => exact absurd HA.out (by simp [scope_put.j0])
  | succ kj1 =>
   have H := HA.out
   clear HA
   simp only [scope_put.j0] at H
   have H' := Aside0.mk H
   clear H
   have hcz46_0 : wc.cell? ⟨gb101, 0, none⟩ = some (.int .i64 a0_0) := (blk_cell BK101.out 0).trans rfl
   have hcz46_1 : wc.cell? ⟨gb101, 1, none⟩ = some (.string a0_1) := (blk_cell BK101.out 1).trans rfl
   have hcz46_2 : wc.cell? ⟨gb101, 2, none⟩ = some (.int .i64 a0_2) := (blk_cell BK101.out 2).trans rfl
   have hcz46_3 : wc.cell? ⟨gb101, 3, none⟩ = some (.int .i64 a0_3) := (blk_cell BK101.out 3).trans rfl
   have hcz46_4 : wc.cell? ⟨gb101, 4, none⟩ = some (.slice A0_4 l0_4.length c0_4) := (blk_cell BK101.out 4).trans rfl
   have hfz46_0 := blk_frozen BK101.out 0
   have hfz46_1 := blk_frozen BK101.out 1
   have hfz46_2 := blk_frozen BK101.out 2
   have hfz46_3 := blk_frozen BK101.out 3
   have hfz46_4 := blk_frozen BK101.out 4
   go_wp2
   go_loopg [3, 51] kj1 (fun kq v3 v51 w' => ∃ (x3_2 : List Int) (x51_2 : Int), v51 = .int .i64 x51_2 ∧ Aside0 (scope_put.l0 kq x3_2 l0_4 (l0_4.length : Int) x51_2 = some r) ∧ Aside0 (kq ≤ kj1) ∧ Aside0 (Kd.R (Kd.int .u8) 5 w' w.heap.size (fun _ => True) v3 x3_2) ∧ Aside0 (w'.heap[gb101]? = some (.cells #[.int .i64 a0_0, .string a0_1, .int .i64 a0_2, .int .i64 a0_3, (.slice A0_4 l0_4.length c0_4)] 40 (0, 0))) ∧ Aside0 (Below w.heap.size w w'))
   case atStart => exact ⟨(x3_1), (0), (by first | rfl | (simp; done) | (simp [*]; done)), H', ⟨Nat.le_refl _⟩, ⟨by (with_reducible repeat (first | apply Kd.R_alloc | apply Kd.R_drewN | apply Kd.R_drew)); exact HO_3.out⟩, ⟨by (with_reducible repeat (first | refine blk_drewN ?_ _ | refine blk_drew ?_ | refine blk_alloc ?_ _)); exact BK101.out⟩, ⟨by repeat (first | (with_reducible first | exact HB.out | apply below_alloc | apply pw_below_drewN | apply below_drew1 | refine below_set ?_ GE101.out) | exact HB.out)⟩⟩
   case round =>
    clear H'
    (try clear c1);(try clear p2);(try clear c3);(try clear c4);(try clear c5);(try clear c6);(try clear c8);(try clear c10);(try clear c16);(try clear c16b0);(try clear c16b1);(try clear c31);(try clear c31b0);(try clear c31b1);(try clear c33);(try clear c38);(try clear c38b0);(try clear c38b1);(try clear c40);(try clear hcz11_0);(try clear hcz11_1);(try clear hcz11_2);(try clear hcz11_3);(try clear hcz11_4);(try clear hcz20_0);(try clear hcz20_1);(try clear hcz20_2);(try clear hcz20_3);(try clear hcz20_4);(try clear hcz34_0);(try clear hcz34_1);(try clear hcz34_2);(try clear hcz34_3);(try clear hcz34_4);(try clear hcz41_0);(try clear hcz41_1);(try clear hcz41_2);(try clear hcz41_3);(try clear hcz41_4);(try clear hcz45_0);(try clear hcz45_1);(try clear hcz45_2);(try clear hcz45_3);(try clear hcz45_4);(try clear hcz46_0);(try clear hcz46_1);(try clear hcz46_2);(try clear hcz46_3);(try clear hcz46_4);(try clear hcz4_0);(try clear hcz4_1);(try clear hcz4_2);(try clear hcz4_3);(try clear hcz4_4);(try clear hfz11_0);(try clear hfz11_1);(try clear hfz11_2);(try clear hfz11_3);(try clear hfz11_4);(try clear hfz20_0);(try clear hfz20_1);(try clear hfz20_2);(try clear hfz20_3);(try clear hfz20_4);(try clear hfz34_0);(try clear hfz34_1);(try clear hfz34_2);(try clear hfz34_3);(try clear hfz34_4);(try clear hfz41_0);(try clear hfz41_1);(try clear hfz41_2);(try clear hfz41_3);(try clear hfz41_4);(try clear hfz45_0);(try clear hfz45_1);(try clear hfz45_2);(try clear hfz45_3);(try clear hfz45_4);(try clear hfz46_0);(try clear hfz46_1);(try clear hfz46_2);(try clear hfz46_3);(try clear hfz46_4);(try clear hfz4_0);(try clear hfz4_1);(try clear hfz4_2);(try clear hfz4_3);(try clear hfz4_4);(try clear p2)
    obtain ⟨x3_2, x51_2, rfl, HA, HK2, HO_3, BK101, HB⟩ := hrel
    cases gk with
    | zero => exact absurd HA.out (by simp [scope_put.l0])
    | succ k2 =>
     have H := HA.out
     clear HA
     simp only [scope_put.l0] at H
     by_cases c47 : x51_2 < (l0_4.length : Int)
     ·rw [if_pos c47] at H
      have c47b0 : decide (x51_2 < (l0_4.length : Int)) = true := decide_eq_true c47
      clear c47
      by_cases c48 : 0 ≤ x51_2
      ·rw [if_pos c48] at H
       have c48b0 : decide (0 ≤ x51_2) = true := decide_eq_true c48
       clear c48
       by_cases c49 : x51_2 < (l0_4.length : Int)
       ·rw [if_pos c49] at H
        have c49b0 : decide (x51_2 < (l0_4.length : Int)) = true := decide_eq_true c49
        clear c49
        replace H := Option.bind_eq_some_iff.mp H
        obtain ⟨t138, A500, H⟩ := H
        replace H : (if x3_2.length + t138.length < 140737488355328 then (scope_put.l0 k2 (x3_2 ++ t138) l0_4 (l0_4.length : Int) (wrap64 (x51_2 + 1))) else (none)) = some r := H
        have A50 := Aside0.mk A500
        clear A500
        by_cases c51 : x3_2.length + t138.length < 140737488355328
        ·rw [if_pos c51] at H
         have LMc51 := Aside0.mk c51
         clear c51
         obtain ⟨y141, hy141⟩ : ∃ y_ : List Int, y_ = (x3_2 ++ t138) := ⟨_, rfl⟩
         replace H : (scope_put.l0 k2 y141 l0_4 (l0_4.length : Int) (wrap64 (x51_2 + 1))) = some r := by first | (rw [hy141]; with_reducible exact H) | (have H2_ := (Option.bind_some _ _).symm.trans H; rw [hy141]; with_reducible exact H2_) | (have H2_ := (Option.bind_some _ _).symm.trans H; with_reducible exact H2_) | with_reducible exact H | (rw [hy141]; exact H) | exact H
         have Ny141 := Aside0.mk hy141
         clear hy141
         have H' := Aside0.mk H
         clear H
         have p136 : 0 ≤ (x51_2 : Int) := of_decide_eq_true (by first | (with_reducible assumption) | assumption)
         have q136 : x51_2 < (l0_4.length : Int) := of_decide_eq_true (by first | (with_reducible assumption) | assumption)
         obtain ⟨ad136, A136_4, c136_4, e136, hx136_0, hx136_1, hx136_2, hx136_3, hx136_4, hl136_4, hi136_4⟩ := at_T40 HR0_4.out x51_2 p136 q136
         cases e136
         replace hx136_0 := (HB.out.cell (World.block_lt_of_cell? w _ hx136_0)).trans hx136_0
         replace hx136_1 := (HB.out.cell (World.block_lt_of_cell? w _ hx136_1)).trans hx136_1
         replace hx136_2 := (HB.out.cell (World.block_lt_of_cell? w _ hx136_2)).trans hx136_2
         replace hx136_3 := (HB.out.cell (World.block_lt_of_cell? w _ hx136_3)).trans hx136_3
         replace hx136_4 := (HB.out.cell (World.block_lt_of_cell? w _ hx136_4)).trans hx136_4
         have HR136_4 := Aside0.mk hi136_4
         have HC136_4 := Aside0.mk hl136_4
         clear hi136_4 hl136_4
         replace p136 := eq_true p136
         replace q136 := eq_true q136
         go_wp2_with (first | ((with_reducible refine gate_dst (N := 5) rfl ?_); refine box_event ?hg (N := 5) ?hd (cs := #[.int .i64 0, .string (⟨#[]⟩ : ByteArray), .int .i64 0, .int .i64 0, .slice none 0 0]) (t := 40) ?hr ?_; (case hd => rfl); (case hg => rfl); (case hr => first | (go_simp; done) | (go_simp; rfl)); intro gb137 hg w52 hbox hb; have n0_ := Aside0.mk (Kd.R_below (by (with_reducible repeat (first | apply Kd.R_alloc | apply Kd.R_drewN | apply Kd.R_drew)); exact HO_3.out) hb); have n1_ := Aside0.mk (blk_below (g := gb101) (o := .cells #[.int .i64 a0_0, .string a0_1, .int .i64 a0_2, .int .i64 a0_3, .slice (some ad136) l0_4.length c0_4] 40 (0, 0)) (by (with_reducible repeat (first | refine blk_drewN ?_ _ | refine blk_drew ?_ | refine blk_alloc ?_ _)); exact BK101.out) hb); have n2_ := Aside0.mk (below_step (by repeat (first | (with_reducible first | exact HB.out | apply below_alloc | apply pw_below_drewN | apply below_drew1 | refine below_set ?_ GE101.out) | exact HB.out)) hb); have n3_ := Aside0.mk (hbox); have n4_ := Aside0.mk ((by rw [hg]; exact (below_size (by repeat (first | (with_reducible first | exact HB.out | apply below_alloc | apply pw_below_drewN | apply below_drew1 | refine below_set ?_ GE101.out) | exact HB.out))) : w.heap.size ≤ gb137)); have n5_ := Aside0.mk ((by rw [hg]; exact (below_size (by repeat (first | (with_reducible first | exact HB.out | apply below_alloc | apply pw_below_drewN | apply below_drew1 | refine below_set ?_ GE101.out) | exact HB.out))) : w.heap.size ≤ gb137)); have n6_ := Aside0.mk ((by rw [hg]; exact Nat.ne_of_lt (blk_lt (g := gb101) (o := .cells #[.int .i64 a0_0, .string a0_1, .int .i64 a0_2, .int .i64 a0_3, .slice (some ad136) l0_4.length c0_4] 40 (0, 0)) (by (with_reducible repeat (first | refine blk_drewN ?_ _ | refine blk_drew ?_ | refine blk_alloc ?_ _)); exact BK101.out)) : gb101 ≠ gb137)); have n7_ := Aside0.mk ((by rw [hg]; exact Nat.ne_of_gt (blk_lt (g := gb101) (o := .cells #[.int .i64 a0_0, .string a0_1, .int .i64 a0_2, .int .i64 a0_3, .slice (some ad136) l0_4.length c0_4] 40 (0, 0)) (by (with_reducible repeat (first | refine blk_drewN ?_ _ | refine blk_drew ?_ | refine blk_alloc ?_ _)); exact BK101.out)) : gb137 ≠ gb101)); clear HO_3; clear BK101; clear HB; have HO_3 := n0_; have BK101 := n1_; have HB := n2_; have BK137 := n3_; have GW137 := n4_; have GE137 := n5_; have NB101_137 := n6_; have NB137_101 := n7_; clear n0_ n1_ n2_ n3_ n4_ n5_ n6_ n7_; clear hb hbox hg; have hnb53 := NB137_101.out; have hnc53 := NB101_137.out; have hcz54_0 : w52.cell? ⟨gb137, 0, none⟩ = some (.int .i64 0) := (blk_cell BK137.out 0).trans rfl; have hcz54_1 : w52.cell? ⟨gb137, 1, none⟩ = some (.string (⟨#[]⟩ : ByteArray)) := (blk_cell BK137.out 1).trans rfl; have hcz54_2 : w52.cell? ⟨gb137, 2, none⟩ = some (.int .i64 0) := (blk_cell BK137.out 2).trans rfl; have hcz54_3 : w52.cell? ⟨gb137, 3, none⟩ = some (.int .i64 0) := (blk_cell BK137.out 3).trans rfl; have hcz54_4 : w52.cell? ⟨gb137, 4, none⟩ = some (.slice none 0 0) := (blk_cell BK137.out 4).trans rfl; have hfz54_0 := blk_frozen BK137.out 0; have hfz54_1 := blk_frozen BK137.out 1; have hfz54_2 := blk_frozen BK137.out 2; have hfz54_3 := blk_frozen BK137.out 3; have hfz54_4 := blk_frozen BK137.out 4) | ((with_reducible refine gate_callee (f := 67) rfl ?_); refine goesL_ (some 57) rfl rfl Try.func67 (by kernel_rfl) rfl #[.agg #[.int .i64 ((rd_T40 l0_4 x51_2).f0), .string ((rd_T40 l0_4 x51_2).f1), .int .i64 ((rd_T40 l0_4 x51_2).f2), .int .i64 ((rd_T40 l0_4 x51_2).f3), .slice A136_4 ((rd_T40 l0_4 x51_2).f4).length c136_4]] rfl (by (try simp only [List.map_toArray, List.map_cons, List.map_nil]); first | done | rfl | (simp only [List.length_drop, List.length_take]; rfl)) ?_; (with_reducible refine (ih k2 (by have := HJ1.out; have := HK2.out; omega) ((rd_T40 l0_4 x51_2).f0) ((rd_T40 l0_4 x51_2).f1) ((rd_T40 l0_4 x51_2).f2) ((rd_T40 l0_4 x51_2).f3) _ _ ((rd_T40 l0_4 x51_2).f4) t138 _ ?side1 ?side2 A50.out).mono ?_); (case side1 => exact Kd.C_below HR136_4.out (by repeat (first | (with_reducible first | exact HB.out | apply below_alloc | apply pw_below_drewN | apply below_drew1 | refine below_set ?_ GE101.out | refine below_set ?_ GE137.out) | exact HB.out))); (case side2 => exact HC136_4.out); rintro e w55 ⟨v139, rfl, ho0, hb⟩; refine ⟨_, rfl, ?_⟩; have n0_ := Aside0.mk (Kd.R_elder' (by (with_reducible repeat (first | apply Kd.R_alloc | apply Kd.R_drewN | apply Kd.R_drew)); exact (Kd.R_mono (Kd.R_far (p := ⟨gb137, 4, none⟩) (Kd.R_far (p := ⟨gb137, 3, none⟩) (Kd.R_far (p := ⟨gb137, 2, none⟩) (Kd.R_far (p := ⟨gb137, 1, none⟩) (Kd.R_far (p := ⟨gb137, 0, none⟩) (Kd.R_types HO_3.out BK137.out (by decide)) (fun _ hk => hk.2) (.int .i64 ((rd_T40 l0_4 x51_2).f0))) (fun _ hk => hk.2) (.string ((rd_T40 l0_4 x51_2).f1))) (fun _ hk => hk.2) (.int .i64 ((rd_T40 l0_4 x51_2).f2))) (fun _ hk => hk.2) (.int .i64 ((rd_T40 l0_4 x51_2).f3))) (fun _ hk => hk.2) (.slice A136_4 ((rd_T40 l0_4 x51_2).f4).length c136_4)) (fun _ h_ => h_.1))) (Kd.R_base ho0) hb); have n1_ := Aside0.mk (Kd.R_lower (Kd.R_new' ho0 (Kd.R_lt (by (with_reducible repeat (first | apply Kd.R_alloc | apply Kd.R_drewN | apply Kd.R_drew)); exact (Kd.R_mono (Kd.R_far (p := ⟨gb137, 4, none⟩) (Kd.R_far (p := ⟨gb137, 3, none⟩) (Kd.R_far (p := ⟨gb137, 2, none⟩) (Kd.R_far (p := ⟨gb137, 1, none⟩) (Kd.R_far (p := ⟨gb137, 0, none⟩) (Kd.R_types HO_3.out BK137.out (by decide)) (fun _ hk => hk.2) (.int .i64 ((rd_T40 l0_4 x51_2).f0))) (fun _ hk => hk.2) (.string ((rd_T40 l0_4 x51_2).f1))) (fun _ hk => hk.2) (.int .i64 ((rd_T40 l0_4 x51_2).f2))) (fun _ hk => hk.2) (.int .i64 ((rd_T40 l0_4 x51_2).f3))) (fun _ hk => hk.2) (.slice A136_4 ((rd_T40 l0_4 x51_2).f4).length c136_4)) (fun _ h_ => h_.1))))) (below_size (by repeat (first | (with_reducible first | exact HB.out | apply below_alloc | apply pw_below_drewN | apply below_drew1 | refine below_set ?_ GE101.out | refine below_set ?_ GE137.out) | exact HB.out)))); have n2_ := Aside0.mk (blk_below (g := gb101) (o := .cells #[.int .i64 a0_0, .string a0_1, .int .i64 a0_2, .int .i64 a0_3, .slice (some ad136) l0_4.length c0_4] 40 (0, 0)) (by (with_reducible repeat (first | refine blk_drewN ?_ _ | refine blk_drew ?_ | refine blk_alloc ?_ _)); refine blk_far ?_ NB101_137.out _; (with_reducible repeat (first | refine blk_drewN ?_ _ | refine blk_drew ?_ | refine blk_alloc ?_ _)); refine blk_far ?_ NB101_137.out _; (with_reducible repeat (first | refine blk_drewN ?_ _ | refine blk_drew ?_ | refine blk_alloc ?_ _)); refine blk_far ?_ NB101_137.out _; (with_reducible repeat (first | refine blk_drewN ?_ _ | refine blk_drew ?_ | refine blk_alloc ?_ _)); refine blk_far ?_ NB101_137.out _; (with_reducible repeat (first | refine blk_drewN ?_ _ | refine blk_drew ?_ | refine blk_alloc ?_ _)); refine blk_far ?_ NB101_137.out _; (with_reducible repeat (first | refine blk_drewN ?_ _ | refine blk_drew ?_ | refine blk_alloc ?_ _)); exact BK101.out) hb); have n3_ := Aside0.mk (blk_below (g := gb137) (o := .cells #[.int .i64 ((rd_T40 l0_4 x51_2).f0), .string ((rd_T40 l0_4 x51_2).f1), .int .i64 ((rd_T40 l0_4 x51_2).f2), .int .i64 ((rd_T40 l0_4 x51_2).f3), .slice A136_4 ((rd_T40 l0_4 x51_2).f4).length c136_4] 40 (0, 0)) (by (with_reducible repeat (first | refine blk_drewN ?_ _ | refine blk_drew ?_ | refine blk_alloc ?_ _)); refine blk_put (cs := #[.int .i64 ((rd_T40 l0_4 x51_2).f0), .string ((rd_T40 l0_4 x51_2).f1), .int .i64 ((rd_T40 l0_4 x51_2).f2), .int .i64 ((rd_T40 l0_4 x51_2).f3), .slice none 0 0]) ?_ 4 _ rfl; (with_reducible repeat (first | refine blk_drewN ?_ _ | refine blk_drew ?_ | refine blk_alloc ?_ _)); refine blk_put (cs := #[.int .i64 ((rd_T40 l0_4 x51_2).f0), .string ((rd_T40 l0_4 x51_2).f1), .int .i64 ((rd_T40 l0_4 x51_2).f2), .int .i64 0, .slice none 0 0]) ?_ 3 _ rfl; (with_reducible repeat (first | refine blk_drewN ?_ _ | refine blk_drew ?_ | refine blk_alloc ?_ _)); refine blk_put (cs := #[.int .i64 ((rd_T40 l0_4 x51_2).f0), .string ((rd_T40 l0_4 x51_2).f1), .int .i64 0, .int .i64 0, .slice none 0 0]) ?_ 2 _ rfl; (with_reducible repeat (first | refine blk_drewN ?_ _ | refine blk_drew ?_ | refine blk_alloc ?_ _)); refine blk_put (cs := #[.int .i64 ((rd_T40 l0_4 x51_2).f0), .string (⟨#[]⟩ : ByteArray), .int .i64 0, .int .i64 0, .slice none 0 0]) ?_ 1 _ rfl; (with_reducible repeat (first | refine blk_drewN ?_ _ | refine blk_drew ?_ | refine blk_alloc ?_ _)); refine blk_put (cs := #[.int .i64 0, .string (⟨#[]⟩ : ByteArray), .int .i64 0, .int .i64 0, .slice none 0 0]) ?_ 0 _ rfl; (with_reducible repeat (first | refine blk_drewN ?_ _ | refine blk_drew ?_ | refine blk_alloc ?_ _)); exact BK137.out) hb); have n4_ := Aside0.mk (below_step (by repeat (first | (with_reducible first | exact HB.out | apply below_alloc | apply pw_below_drewN | apply below_drew1 | refine below_set ?_ GE101.out | refine below_set ?_ GE137.out) | exact HB.out)) hb); clear HO_3; clear BK101; clear BK137; clear HB; have HO_3 := n0_; have HO140 := n1_; have BK101 := n2_; have BK137 := n3_; have HB := n4_; clear n0_ n1_ n2_ n3_ n4_; (try clear hb); (try clear hb2); (try clear hk); (try clear hi); (try clear ho0); obtain ⟨Ao57, co57, eo57⟩ := Kd.R_slice HO140.out; subst eo57) | ((with_reducible refine gate_builtin (b := .append) (xs := #[.tmp 55, .tmp 57]) rfl ?_); at_builtin; refine Kd.R_append_rows (Kd.int .u8) (w0 := w) w.heap.size rfl (.tmp 55) (.tmp 57) 27 5 (.int .u8 0) 1 rfl Try.underlying27 info5 rfl (by decide) (by omega) u3 x3_2 t138 _ _ _ (fun k_ => some k_ ≠ (.slice Ao57 t138.length co57 : Value).ownBlock) (fun _ => False) rfl rfl ?aO ?aR (fun _ _ h => h) (fun _ h => h.elim) ?aF ?aB ?aS ?aL ?_; (case aR => repeat (first | exact (Kd.R_reads' HO140.out).2.2 | (with_reducible refine Kd.C_alloc ?_ _) | (with_reducible refine Kd.C_drewN ?_ _) | (with_reducible refine Kd.C_drew ?_))); (case aB => exact (by repeat (first | (with_reducible first | exact HB.out | apply below_alloc | apply pw_below_drewN | apply below_drew1 | refine below_set ?_ GE101.out | refine below_set ?_ GE137.out) | exact HB.out))); (case aF => exact (fun k_ hk => Kd.fresh' (Kd.R_lt (by (with_reducible repeat (first | apply Kd.R_alloc | apply Kd.R_drewN | apply Kd.R_drew)); exact HO140.out)) k_ hk)); (case aO => exact (by (with_reducible repeat (first | apply Kd.R_alloc | apply Kd.R_drewN | apply Kd.R_drew)); exact Kd.R_mono HO_3.out (fun _ hk => hk.2))); (case aS => exact (below_size (by repeat (first | (with_reducible first | exact HB.out | apply below_alloc | apply pw_below_drewN | apply below_drew1 | refine below_set ?_ GE101.out | refine below_set ?_ GE137.out) | exact HB.out)))); (case aL => have := LMc51.out; omega); intro v142 w56 ho hb hg hat; rw [← Ny141.out] at ho; have n0_ := Aside0.mk (blk_grown (g := gb101) (o := .cells #[.int .i64 a0_0, .string a0_1, .int .i64 a0_2, .int .i64 a0_3, .slice (some ad136) l0_4.length c0_4] 40 (0, 0)) (by (with_reducible repeat (first | refine blk_drewN ?_ _ | refine blk_drew ?_ | refine blk_alloc ?_ _)); exact BK101.out) hg (Kd.R_ne HO_3.out BK101.out (by decide))); have n1_ := Aside0.mk (blk_grown (g := gb137) (o := .cells #[.int .i64 ((rd_T40 l0_4 x51_2).f0), .string ((rd_T40 l0_4 x51_2).f1), .int .i64 ((rd_T40 l0_4 x51_2).f2), .int .i64 ((rd_T40 l0_4 x51_2).f3), .slice A136_4 ((rd_T40 l0_4 x51_2).f4).length c136_4] 40 (0, 0)) (by (with_reducible repeat (first | refine blk_drewN ?_ _ | refine blk_drew ?_ | refine blk_alloc ?_ _)); exact BK137.out) hg (Kd.R_ne HO_3.out BK137.out (by decide))); have n2_ := Aside0.mk (Kd.R_after (ok := (fun _ => True)) (by (with_reducible repeat (first | apply Kd.R_alloc | apply Kd.R_drewN | apply Kd.R_drew)); exact HO140.out) hg hat); have n3_ := Aside0.mk (hb); have n4_ := Aside0.mk (ho); clear BK101; clear BK137; clear HO140; clear HB; clear HO_3; have BK101 := n0_; have BK137 := n1_; have HO140 := n2_; have HB := n3_; have HO143 := n4_; clear n0_ n1_ n2_ n3_ n4_; clear ho hb hg hat))
         go_roundg k2
         case measure => have := HJ1.out; have := HK2.out; omega
         case rel => exact ⟨(y141), (wrap64 (x51_2 + 1)), (by first | rfl | (simp; done) | (simp [*]; done)), H', ⟨by have := HJ1.out; have := HK2.out; omega⟩, ⟨by (with_reducible repeat (first | apply Kd.R_alloc | apply Kd.R_drewN | apply Kd.R_drew)); exact Kd.R_mono HO143.out (fun _ hk => trivial)⟩, ⟨by (with_reducible repeat (first | refine blk_drewN ?_ _ | refine blk_drew ?_ | refine blk_alloc ?_ _)); exact BK101.out⟩, ⟨by repeat (first | (with_reducible first | exact HB.out | apply below_alloc | apply pw_below_drewN | apply below_drew1 | refine below_set ?_ GE101.out | refine below_set ?_ GE137.out) | exact HB.out)⟩⟩
        ·rw [if_neg c51] at H
         exact absurd H (by simp)
       ·rw [if_neg c49] at H
        exact absurd H (by simp)
      ·rw [if_neg c48] at H
       exact absurd H (by simp)
     ·rw [if_neg c47] at H
      have c47b0 : decide (x51_2 < (l0_4.length : Int)) = false := decide_eq_false c47
      clear c47
      obtain rfl := Option.some.inj H
      go_wp2
      go_ret
      exact ⟨_, by first | rfl | (simp [errW_none, errW_some] <;> rfl) | (simp [*, errW_none, errW_some] <;> rfl), by (with_reducible repeat (first | apply Kd.R_alloc | apply Kd.R_drewN | apply Kd.R_drew)); exact HO_3.out, by repeat (first | (with_reducible first | exact HB.out | apply below_alloc | apply pw_below_drewN | apply below_drew1 | refine below_set ?_ GE101.out) | exact HB.out)⟩

end Go.Proofs.Ytgdpabedlghiaaa.PZ
-- printed for this claim by a program (pall.sh)
-- mended by fixpz.py
namespace Go.Proofs.Ytgdpabedlghiaaa.PZ
open Go.RowKit Go.Proofs.YtgdpabedlghiaaaW.PrintWords Go.Proofs.YtgdpabedlghiaaaW.PrintLast Go.Proofs.YtgdpabedlghiaaaW.PrintMore
attribute [local go_sem] max2_int min2_int max_two min_two max_three min_three max_four min_four   -- for this text's walks alone
set_option linter.unusedVariables false
set_option linter.unusedSimpArgs false

/-! ### scope_Put: function 25 -/
def scope_Put.f (k : Nat) (a0_0 : Int) (a0_1 : ByteArray) (a0_2 : Int) (a0_3 : Int) (l0_4 : List (S40)) : Option (List Int × Int) := (scope_Check.f a0_0 a0_1 a0_2 a0_3 l0_4).bind fun t102 => (if t102 = 0 then ((scope_put.f k a0_0 a0_1 a0_2 a0_3 l0_4).bind fun t103 => (some (t103, 0))) else (some (([] : List Int), t102)))
set_option maxHeartbeats 8000000 in
set_option maxRecDepth 100000 in
theorem scope_Put.calls (k : Nat) (a0_0 : Int) (a0_1 : ByteArray) (a0_2 : Int) (a0_3 : Int) (A0_4 : Option Addr) (c0_4 : Nat) (l0_4 : List (S40)) (r1 : List Int) (r2 : Int) (w : World) (hr0_4 : Kd.C k40 w A0_4 l0_4.length l0_4) (hc0_4 : l0_4.length ≤ c0_4) (h : scope_Put.f k a0_0 a0_1 a0_2 a0_3 l0_4 = some (r1, r2)) :
  Calls Try.prog 25 #[.agg #[.int .i64 a0_0, .string a0_1, .int .i64 a0_2, .int .i64 a0_3, .slice A0_4 l0_4.length c0_4]] w fun e w' => ∃ v0_ : Value, e = .returned (.tuple #[v0_, .int .i64 r2]) ∧ Kd.R (Kd.int .u8) 5 w' w.heap.size (fun _ => True) v0_ r1 ∧ Below w.heap.size w w' := by
 have hu40 := Try.underlying40
 have HR0_4 := Aside0.mk hr0_4
 have HC0_4 := Aside0.mk hc0_4
 clear hr0_4 hc0_4
 have HB := Aside0.mk (Below.refl w.heap.size w)
 have H : ((scope_Check.f a0_0 a0_1 a0_2 a0_3 l0_4).bind fun t102 => (if t102 = 0 then ((scope_put.f k a0_0 a0_1 a0_2 a0_3 l0_4).bind fun t103 => (some (t103, 0))) else (some (([] : List Int), t102)))) = some (r1, r2) := h
 clear h
 replace H := Option.bind_eq_some_iff.mp H
 obtain ⟨t102, A20, H⟩ := H
 replace H : (if t102 = 0 then ((scope_put.f k a0_0 a0_1 a0_2 a0_3 l0_4).bind fun t103 => (some (t103, 0))) else (some (([] : List Int), t102))) = some (r1, r2) := H
 have A2 := Aside0.mk A20
 clear A20
 by_cases c3 : t102 = 0
 ·rw [if_pos c3] at H
  have c3b0 : (t102 == 0) = true := beq_iff_eq.mpr c3
  have c3b1 : (t102 != 0) = false := bne_eq_false_iff_eq.mpr c3
  clear c3
  replace H := Option.bind_eq_some_iff.mp H
  obtain ⟨t103, A40, H⟩ := H
  replace H : (some (t103, 0)) = some (r1, r2) := H
  have A4 := Aside0.mk A40
  clear A40
  simp only [Option.some.injEq, Prod.mk.injEq] at H
  obtain ⟨rfl, rfl⟩ := H
  go_enter Try.func25, Try.ntmps25
  go_wp2_with (first | ((with_reducible refine gate_dst (N := 1) rfl ?_); refine box_event ?hg (N := 1) ?hd (cs := #[.int .i64 a0_0, .string a0_1, .int .i64 a0_2, .int .i64 a0_3, .slice A0_4 l0_4.length c0_4]) (t := 40) ?hr ?_; (case hd => rfl); (case hg => rfl); (case hr => first | (go_simp; done) | (go_simp; rfl)); intro gb101 hg w5 hbox hb; have n0_ := Aside0.mk (below_step (by repeat (first | (with_reducible first | exact HB.out | apply below_alloc | apply pw_below_drewN | apply below_drew1) | exact HB.out)) hb); have n1_ := Aside0.mk (hbox); have n2_ := Aside0.mk ((by rw [hg]; exact (below_size (by repeat (first | (with_reducible first | exact HB.out | apply below_alloc | apply pw_below_drewN | apply below_drew1) | exact HB.out))) : w.heap.size ≤ gb101)); have n3_ := Aside0.mk ((by rw [hg]; exact (below_size (by repeat (first | (with_reducible first | exact HB.out | apply below_alloc | apply pw_below_drewN | apply below_drew1) | exact HB.out))) : w.heap.size ≤ gb101)); clear HB; have HB := n0_; have BK101 := n1_; have GW101 := n2_; have GE101 := n3_; clear n0_ n1_ n2_ n3_; clear hb hbox hg; have hcz6_0 : w5.cell? ⟨gb101, 0, none⟩ = some (.int .i64 a0_0) := (blk_cell BK101.out 0).trans rfl; have hcz6_1 : w5.cell? ⟨gb101, 1, none⟩ = some (.string a0_1) := (blk_cell BK101.out 1).trans rfl; have hcz6_2 : w5.cell? ⟨gb101, 2, none⟩ = some (.int .i64 a0_2) := (blk_cell BK101.out 2).trans rfl; have hcz6_3 : w5.cell? ⟨gb101, 3, none⟩ = some (.int .i64 a0_3) := (blk_cell BK101.out 3).trans rfl; have hcz6_4 : w5.cell? ⟨gb101, 4, none⟩ = some (.slice A0_4 l0_4.length c0_4) := (blk_cell BK101.out 4).trans rfl; have hfz6_0 := blk_frozen BK101.out 0; have hfz6_1 := blk_frozen BK101.out 1; have hfz6_2 := blk_frozen BK101.out 2; have hfz6_3 := blk_frozen BK101.out 3; have hfz6_4 := blk_frozen BK101.out 4) | ((with_reducible refine gate_callee (f := 28) rfl ?_); refine goesL_ (some 6) rfl rfl Try.func28 (by kernel_rfl) rfl #[.agg #[.int .i64 a0_0, .string a0_1, .int .i64 a0_2, .int .i64 a0_3, .slice A0_4 l0_4.length c0_4]] rfl (by (try simp only [List.map_toArray, List.map_cons, List.map_nil]); first | done | rfl | (simp only [List.length_drop, List.length_take]; rfl)) ?_; (with_reducible refine (scope_Check.calls a0_0 a0_1 a0_2 a0_3 _ _ l0_4 t102 _ ?side1 ?side2 A2.out).mono ?_); (case side1 => repeat (first | exact (Kd.C_below HR0_4.out HB.out) | (with_reducible refine Kd.C_alloc ?_ _) | (with_reducible refine Kd.C_drewN ?_ _) | (with_reducible refine Kd.C_drew ?_))); (case side2 => exact HC0_4.out); rintro e w7 ⟨rfl, hb⟩; refine ⟨_, rfl, ?_⟩; have n0_ := Aside0.mk (blk_below (g := gb101) (o := .cells #[.int .i64 a0_0, .string a0_1, .int .i64 a0_2, .int .i64 a0_3, .slice A0_4 l0_4.length c0_4] 40 (0, 0)) (by (with_reducible repeat (first | refine blk_drewN ?_ _ | refine blk_drew ?_ | refine blk_alloc ?_ _)); exact BK101.out) hb); have n1_ := Aside0.mk (below_step (by repeat (first | (with_reducible first | exact HB.out | apply below_alloc | apply pw_below_drewN | apply below_drew1 | refine below_set ?_ GE101.out) | exact HB.out)) hb); clear BK101; clear HB; have BK101 := n0_; have HB := n1_; clear n0_ n1_; (try clear hb); (try clear hb2); (try clear hk); (try clear hi); have hcz8_0 : w7.cell? ⟨gb101, 0, none⟩ = some (.int .i64 a0_0) := (blk_cell BK101.out 0).trans rfl; have hcz8_1 : w7.cell? ⟨gb101, 1, none⟩ = some (.string a0_1) := (blk_cell BK101.out 1).trans rfl; have hcz8_2 : w7.cell? ⟨gb101, 2, none⟩ = some (.int .i64 a0_2) := (blk_cell BK101.out 2).trans rfl; have hcz8_3 : w7.cell? ⟨gb101, 3, none⟩ = some (.int .i64 a0_3) := (blk_cell BK101.out 3).trans rfl; have hcz8_4 : w7.cell? ⟨gb101, 4, none⟩ = some (.slice A0_4 l0_4.length c0_4) := (blk_cell BK101.out 4).trans rfl; have hfz8_0 := blk_frozen BK101.out 0; have hfz8_1 := blk_frozen BK101.out 1; have hfz8_2 := blk_frozen BK101.out 2; have hfz8_3 := blk_frozen BK101.out 3; have hfz8_4 := blk_frozen BK101.out 4) | ((with_reducible refine gate_callee (f := 67) rfl ?_); refine goesL_ (some 11) rfl rfl Try.func67 (by kernel_rfl) rfl #[.agg #[.int .i64 a0_0, .string a0_1, .int .i64 a0_2, .int .i64 a0_3, .slice A0_4 l0_4.length c0_4]] rfl (by (try simp only [List.map_toArray, List.map_cons, List.map_nil]); first | done | rfl | (simp only [List.length_drop, List.length_take]; rfl)) ?_; (with_reducible refine (scope_put.calls k a0_0 a0_1 a0_2 a0_3 _ _ l0_4 t103 _ ?side1 ?side2 A4.out).mono ?_); (case side1 => repeat (first | exact (Kd.C_below HR0_4.out HB.out) | (with_reducible refine Kd.C_alloc ?_ _) | (with_reducible refine Kd.C_drewN ?_ _) | (with_reducible refine Kd.C_drew ?_))); (case side2 => exact HC0_4.out); rintro e w9 ⟨v104, rfl, ho0, hb⟩; refine ⟨_, rfl, ?_⟩; have n0_ := Aside0.mk (Kd.R_lower ho0 (below_size (by repeat (first | (with_reducible first | exact HB.out | apply below_alloc | apply pw_below_drewN | apply below_drew1 | refine below_set ?_ GE101.out) | exact HB.out)))); have n1_ := Aside0.mk (blk_below (g := gb101) (o := .cells #[.int .i64 a0_0, .string a0_1, .int .i64 a0_2, .int .i64 a0_3, .slice A0_4 l0_4.length c0_4] 40 (0, 0)) (by (with_reducible repeat (first | refine blk_drewN ?_ _ | refine blk_drew ?_ | refine blk_alloc ?_ _)); exact BK101.out) hb); have n2_ := Aside0.mk (below_step (by repeat (first | (with_reducible first | exact HB.out | apply below_alloc | apply pw_below_drewN | apply below_drew1 | refine below_set ?_ GE101.out) | exact HB.out)) hb); clear BK101; clear HB; have HO105 := n0_; have BK101 := n1_; have HB := n2_; clear n0_ n1_ n2_; (try clear hb); (try clear hb2); (try clear hk); (try clear hi); (try clear ho0)))
  go_ret2
  exact ⟨_, by first | rfl | (simp [errW_none, errW_some] <;> rfl) | (simp [*, errW_none, errW_some] <;> rfl), by (with_reducible repeat (first | apply Kd.R_alloc | apply Kd.R_drewN | apply Kd.R_drew)); exact HO105.out, by repeat (first | (with_reducible first | exact HB.out | apply below_alloc | apply pw_below_drewN | apply below_drew1 | refine below_set ?_ GE101.out) | exact HB.out)⟩
 ·rw [if_neg c3] at H
  have c3b0 : (t102 == 0) = false := beq_eq_false_iff_ne.mpr c3
  have c3b1 : (t102 != 0) = true := bne_iff_ne.mpr c3
  simp only [Option.some.injEq, Prod.mk.injEq] at H
  obtain ⟨rfl, rfl⟩ := H
  go_enter Try.func25, Try.ntmps25
  go_wp2_with (first | ((with_reducible refine gate_dst (N := 1) rfl ?_); refine box_event ?hg (N := 1) ?hd (cs := #[.int .i64 a0_0, .string a0_1, .int .i64 a0_2, .int .i64 a0_3, .slice A0_4 l0_4.length c0_4]) (t := 40) ?hr ?_; (case hd => rfl); (case hg => rfl); (case hr => first | (go_simp; done) | (go_simp; rfl)); intro gb101 hg w10 hbox hb; have n0_ := Aside0.mk (below_step (by repeat (first | (with_reducible first | exact HB.out | apply below_alloc | apply pw_below_drewN | apply below_drew1) | exact HB.out)) hb); have n1_ := Aside0.mk (hbox); have n2_ := Aside0.mk ((by rw [hg]; exact (below_size (by repeat (first | (with_reducible first | exact HB.out | apply below_alloc | apply pw_below_drewN | apply below_drew1) | exact HB.out))) : w.heap.size ≤ gb101)); have n3_ := Aside0.mk ((by rw [hg]; exact (below_size (by repeat (first | (with_reducible first | exact HB.out | apply below_alloc | apply pw_below_drewN | apply below_drew1) | exact HB.out))) : w.heap.size ≤ gb101)); clear HB; have HB := n0_; have BK101 := n1_; have GW101 := n2_; have GE101 := n3_; clear n0_ n1_ n2_ n3_; clear hb hbox hg; have hcz11_0 : w10.cell? ⟨gb101, 0, none⟩ = some (.int .i64 a0_0) := (blk_cell BK101.out 0).trans rfl; have hcz11_1 : w10.cell? ⟨gb101, 1, none⟩ = some (.string a0_1) := (blk_cell BK101.out 1).trans rfl; have hcz11_2 : w10.cell? ⟨gb101, 2, none⟩ = some (.int .i64 a0_2) := (blk_cell BK101.out 2).trans rfl; have hcz11_3 : w10.cell? ⟨gb101, 3, none⟩ = some (.int .i64 a0_3) := (blk_cell BK101.out 3).trans rfl; have hcz11_4 : w10.cell? ⟨gb101, 4, none⟩ = some (.slice A0_4 l0_4.length c0_4) := (blk_cell BK101.out 4).trans rfl; have hfz11_0 := blk_frozen BK101.out 0; have hfz11_1 := blk_frozen BK101.out 1; have hfz11_2 := blk_frozen BK101.out 2; have hfz11_3 := blk_frozen BK101.out 3; have hfz11_4 := blk_frozen BK101.out 4) | ((with_reducible refine gate_callee (f := 28) rfl ?_); refine goesL_ (some 6) rfl rfl Try.func28 (by kernel_rfl) rfl #[.agg #[.int .i64 a0_0, .string a0_1, .int .i64 a0_2, .int .i64 a0_3, .slice A0_4 l0_4.length c0_4]] rfl (by (try simp only [List.map_toArray, List.map_cons, List.map_nil]); first | done | rfl | (simp only [List.length_drop, List.length_take]; rfl)) ?_; (with_reducible refine (scope_Check.calls a0_0 a0_1 a0_2 a0_3 _ _ l0_4 t102 _ ?side1 ?side2 A2.out).mono ?_); (case side1 => repeat (first | exact (Kd.C_below HR0_4.out HB.out) | (with_reducible refine Kd.C_alloc ?_ _) | (with_reducible refine Kd.C_drewN ?_ _) | (with_reducible refine Kd.C_drew ?_))); (case side2 => exact HC0_4.out); rintro e w12 ⟨rfl, hb⟩; refine ⟨_, rfl, ?_⟩; have n0_ := Aside0.mk (blk_below (g := gb101) (o := .cells #[.int .i64 a0_0, .string a0_1, .int .i64 a0_2, .int .i64 a0_3, .slice A0_4 l0_4.length c0_4] 40 (0, 0)) (by (with_reducible repeat (first | refine blk_drewN ?_ _ | refine blk_drew ?_ | refine blk_alloc ?_ _)); exact BK101.out) hb); have n1_ := Aside0.mk (below_step (by repeat (first | (with_reducible first | exact HB.out | apply below_alloc | apply pw_below_drewN | apply below_drew1 | refine below_set ?_ GE101.out) | exact HB.out)) hb); clear BK101; clear HB; have BK101 := n0_; have HB := n1_; clear n0_ n1_; (try clear hb); (try clear hb2); (try clear hk); (try clear hi)))
  go_ret2
  exact ⟨_, by first | rfl | (simp [errW_none, errW_some] <;> rfl) | (simp [*, errW_none, errW_some] <;> rfl), by first | exact Kd.R_nil _ _ _ _ _ | exact Kd.N_nil _ _ _ _ _ | exact Kd.V_nil _ _ _ _ _ | exact Kd.Q_nil _ _ _ _ _ | exact Kd.S_nil _ _ _ _ _, by repeat (first | (with_reducible first | exact HB.out | apply below_alloc | apply pw_below_drewN | apply below_drew1 | refine below_set ?_ GE101.out) | exact HB.out)⟩

end Go.Proofs.Ytgdpabedlghiaaa.PZ
/- A scope's bytes. -/
namespace Go.Proofs.Ytgdpabedlghiaaa.Scope
set_option linter.unusedVariables false
set_option linter.unusedSimpArgs false
open Go.RowKit Go.Proofs.YtgdpabedlghiaaaW.PrintWords Go.Proofs.Ytgdpabedlghiaaa.PZ Go.Proofs.Ytgdpabedlghiaaa.Aid Go.Proofs.Ytgdpabedlghiaaa.Lo
def headS (op : Int) (nm : ByteArray) (fr to_ : Int) (n : Nat) : List Int := if namedB op = true then textB (bytesOf nm) else if op = 5 then intB fr ++ intB to_ else if op = 6 ∨ op = 7 then intB (n : Int) else []
mutual
/-- A scope's bytes. -/
def putS : S40 → List Int
  | ⟨op, nm, fr, to_, kids⟩ => (op % 256) :: (headS op nm fr to_ kids.length ++ putL kids)
def putL : List S40 → List Int
  | [] => []
  | k :: ks => putS k ++ putL ks
end
theorem put_eq (x : S40) : putS x = (x.f0 % 256) :: (headS x.f0 x.f1 x.f2 x.f3 x.f4.length ++ putL x.f4) := by obtain ⟨_, _, _, _, _⟩ := x; rw [putS]
theorem intB_len (n : Int) : (intB n).length ≤ 9 := numB_len (u64_range n).2
theorem head_len (op : Int) (nm : ByteArray) (fr to_ : Int) (n : Nat) (h : nm.size ≤ 100) : (headS op nm fr to_ n).length ≤ 109 := by
  unfold headS
  by_cases c1 : namedB op = true
  · rw [if_pos c1, textB, List.length_append, bytesOf_length]
    have := numB_len (n := (nm.size : Int)) (by omega)
    omega
  · rw [if_neg c1]
    by_cases c2 : op = 5
    · rw [if_pos c2, List.length_append]
      have := intB_len fr
      have := intB_len to_
      omega
    · rw [if_neg c2]
      by_cases c3 : op = 6 ∨ op = 7
      · rw [if_pos c3]
        have := intB_len (n : Int)
        omega
      · rw [if_neg c3]; simp
theorem putL_len : ∀ (ks : List S40), (∀ k ∈ ks, (putS k).length ≤ 110 * nodes k) → (putL ks).length ≤ 110 * nodesL ks
  | [], _ => by simp [putL]
  | k :: ks, h => by
    rw [putL, nodesL, List.length_append]
    have := h k (List.mem_cons_self)
    have := putL_len ks (fun k hk => h k (List.mem_cons_of_mem _ hk))
    omega
theorem put_len : ∀ (n : Nat) (x : S40), SizeOf.sizeOf x < n → short x → (putS x).length ≤ 110 * nodes x := by
  intro n
  induction n with
  | zero => intro x h; exact absurd h (by omega)
  | succ n ih =>
    intro x hn hs
    have hs2 := (short_eq x).1 hs
    rw [put_eq, nodes_eq, List.length_cons, List.length_append]
    have := head_len x.f0 x.f1 x.f2 x.f3 x.f4.length hs2.1
    have := putL_len x.f4 (fun k hk => ih k (by have := kid_lt hk; omega) (shortL_mem hs2.2 hk))
    omega
theorem nodesL_drop (ks : List S40) (i : Nat) (h : i < ks.length) : nodesL (ks.drop i) = nodes ks[i] + nodesL (ks.drop (i + 1)) := by
  rw [List.drop_eq_getElem_cons h, nodesL]
theorem put_loop (kids : List S40) (hs : shortL kids) (hl : kids.length ≤ 60)
    (ih : ∀ k ∈ kids, Ev (fun n => scope_put.f n k.f0 k.f1 k.f2 k.f3 k.f4) (putS k)) :
    ∀ (j i : Nat) (acc : List Int), i + j = kids.length → acc.length + 110 * nodesL (kids.drop i) < 140737488355328 →
      Ev (fun n => scope_put.l0 n acc kids (kids.length : Int) (i : Int)) (acc ++ putL (kids.drop i)) := by
  intro j
  induction j with
  | zero =>
    intro i acc hi hb
    refine Ev.step (fun k => by simp only [scope_put.l0]; rfl) (neg (by omega) (now ?_))
    rw [List.drop_eq_nil_of_le (by omega), putL, List.append_nil]
  | succ j ih2 =>
    intro i acc hi hb
    have hlt : i < kids.length := by omega
    rw [nodesL_drop kids i hlt] at hb
    have hk := List.getElem_mem hlt
    have hp := put_len _ kids[i] (Nat.lt_succ_self _) (shortL_mem hs hk)
    refine Ev.step (fun k => by simp only [scope_put.l0]; rfl) (pos (by omega) (pos (by omega) (pos (by omega) ?_)))
    rw [rd_at kids i hlt]
    refine evBind (ih kids[i] hk) (pos (by omega) ?_)
    rw [show wrap64 ((i : Int) + 1) = ((i + 1 : Nat) : Int) from inc hlt (by omega)]
    have h := ih2 (i + 1) (acc ++ putS kids[i]) (by omega) (by rw [List.length_append]; omega)
    rw [List.drop_eq_getElem_cons hlt, putL, ← List.append_assoc]
    exact h
theorem put_ev : ∀ (n : Nat) (x : S40), SizeOf.sizeOf x < n → short x → nodes x ≤ 60 → Ev (fun k => scope_put.f k x.f0 x.f1 x.f2 x.f3 x.f4) (putS x) := by
  intro n
  induction n with
  | zero => intro x h; exact absurd h (by omega)
  | succ n ih =>
    intro x hn hs hN
    have hs2 := (short_eq x).1 hs
    have hN2 : nodesL x.f4 < 60 := by rw [nodes_eq] at hN; omega
    have hlen := len_nodes x.f4
    have hL : ∀ acc : List Int, acc.length ≤ 1000 → Ev (fun n => scope_put.j0 n acc x.f0 x.f1 x.f2 x.f3 x.f4) (acc ++ putL x.f4) := fun acc ha => by
      have h := put_loop x.f4 hs2.2 (by omega) (fun k hk => ih k (by have := kid_lt hk; omega) (shortL_mem hs2.2 hk) (by have := node_le hk; omega)) x.f4.length 0 acc (by omega) (by rw [List.drop_zero]; omega)
      rw [List.drop_zero] at h
      exact Ev.step (fun k => by simp only [scope_put.j0]; rfl) h
    have hh := head_len x.f0 x.f1 x.f2 x.f3 x.f4.length hs2.1
    rw [put_eq]
    refine Ev.step (fun k => by simp only [scope_put.f, Option.bind_some, named_v]; rfl) ?_
    unfold headS at hh ⊢
    by_cases c1 : namedB x.f0 = true
    · rw [if_pos c1] at hh ⊢
      refine pos c1 (bindSome (show tlv_TextS.f x.f1 = some (textB (bytesOf x.f1)) from if_pos (by omega)) (pos (by simp only [List.length_cons, List.length_nil]; omega) ?_))
      exact hL _ (by simp only [List.length_append, List.length_cons, List.length_nil]; omega)
    · rw [if_neg c1] at hh ⊢
      refine neg c1 ?_
      by_cases c5 : x.f0 = 5
      · rw [if_pos c5] at hh ⊢
        refine pos c5 (evBind (int_ev x.f2) (evBind (int_ev x.f3) (evBind (all_ev _ ?_ ?_) ?_)))
        · simp
        · simp only [List.flatten_cons, List.flatten_nil, List.append_nil, List.length_append, List.length_cons, List.length_nil]
          rw [List.length_append] at hh
          omega
        · simp only [List.flatten_cons, List.flatten_nil, List.append_nil]
          have h := hL ([x.f0 % 256] ++ (intB x.f2 ++ intB x.f3)) (by rw [List.length_append]; simp only [List.length_cons, List.length_nil]; omega)
          simpa using h
      · rw [if_neg c5] at hh ⊢
        refine neg c5 ?_
        by_cases c6 : x.f0 = 6
        · rw [if_pos (Or.inl c6)] at hh ⊢
          exact pos c6 (evBind (int_ev _) (pos (by simp only [List.length_cons, List.length_nil]; omega) (hL _ (by simp only [List.length_append, List.length_cons, List.length_nil]; omega))))
        · refine neg c6 ?_
          by_cases c7 : x.f0 = 7
          · rw [if_pos (Or.inr c7)] at hh ⊢
            exact pos c7 (evBind (int_ev _) (pos (by simp only [List.length_cons, List.length_nil]; omega) (hL _ (by simp only [List.length_append, List.length_cons, List.length_nil]; omega))))
          · rw [if_neg (by omega)]
            exact neg c7 (hL _ (by simp))
/-- What Put answers. -/
theorem Put_ev (x : S40) (hs : short x) (hN : nodes x ≤ 60) : Ev (fun k => scope_Put.f k x.f0 x.f1 x.f2 x.f3 x.f4) (if mayB x = true then (putS x, 0) else ([], 1)) := by
  unfold scope_Put.f
  refine bindSome (show scope_Check.f x.f0 x.f1 x.f2 x.f3 x.f4 = some (if mayB x = true then 0 else 1) by obtain ⟨_, _, _, _, _⟩ := x; rfl) ?_
  by_cases c : mayB x = true
  · rw [if_pos c, if_pos c]
    exact pos rfl (evBind (put_ev _ x (Nat.lt_succ_self _) hs hN) (now rfl))
  · rw [if_neg c, if_neg c]
    exact neg (by decide) (now rfl)
end Go.Proofs.Ytgdpabedlghiaaa.Scope
/- Which scope bytes are, in plain words; what was put is got, and back. -/
namespace Go.Proofs.Ytgdpabedlghiaaa.Scope
set_option linter.unusedVariables false
set_option linter.unusedSimpArgs false
open Go.RowKit Go.Proofs.Ytgdpabedlghiaaa.Base Go.Proofs.Ytgdpabedlghiaaa.TlvPlain Go.Proofs.Ytgdpabedlghiaaa.Lo Go.Proofs.Ytgdpabedlghiaaa.RdPlain Go.Proofs.YtgdpabedlghiaaaW.PrintWords Go.Proofs.Ytgdpabedlghiaaa.PZ Go.Proofs.Ytgdpabedlghiaaa.Aid
def emptyS : ByteArray := ⟨#[]⟩
def z40s : S40 := ⟨0, emptyS, 0, 0, []⟩
/-- A scope's fields: its name, from, to, and how many kids it has. -/
def headR (op : Int) (st : Option (List Int)) : (ByteArray × Int × Int × Int) × Option (List Int) :=
  if namedB op = true then ((strOfNums (textO st 16).1, 0, 0, leastB op), (textO st 16).2)
  else if op = 5 then ((emptyS, (countO st 1099511627776).1, (countO (countO st 1099511627776).2 1099511627776).1, leastB op), (countO (countO st 1099511627776).2 1099511627776).2)
  else if op = 6 ∨ op = 7 then ((emptyS, 0, 0, (countO st 24).1), (countO st 24).2)
  else ((emptyS, 0, 0, leastB op), st)
/-- The next scope, at most so deep. -/
def readS : Nat → Option (List Int) → Option (S40 × List Int)
  | 0, _ => none
  | deep + 1, st => match (takeO st 1).2 with
    | none => none
    | some r => match readK (readS deep) (headR ((takeO st 1).1.getD 0 0) (some r)).1.2.2.2.toNat (headR ((takeO st 1).1.getD 0 0) (some r)).2 with
      | some (ks, some s) => some (⟨(takeO st 1).1.getD 0 0, (headR ((takeO st 1).1.getD 0 0) (some r)).1.1, (headR ((takeO st 1).1.getD 0 0) (some r)).1.2.1, (headR ((takeO st 1).1.getD 0 0) (some r)).1.2.2.1, ks⟩, s)
      | _ => none
/-- Which scope bytes are. -/
def getSc (b : List Int) : S40 × Int :=
  match readS 8 (some b) with
  | some (x, []) => if mayB x = true then (x, 0) else (z40s, 2)
  | _ => (z40s, 2)
def okS : Nat → S40 → Prop
  | 0, _ => False
  | d + 1, x => fieldsB x.f0 x.f1 x.f2 x.f3 = true ∧ leastB x.f0 ≤ (x.f4.length : Int) ∧ (x.f4.length : Int) ≤ mostB x.f0 ∧ ∀ k ∈ x.f4, okS d k
theorem any_ok (d : Nat) (hd : d ≤ 7) : ∀ (ks : List S40) (l : Int), (∀ k ∈ ks, ∀ l, (mayS k (d : Int) l).1 = true → okS d k) → (mayAny ks (d : Int) l).1 = false → ∀ k ∈ ks, okS d k
  | [], _, _, _ => fun k h => by cases h
  | k :: ks, l, ih, h => by
    rw [mayAny] at h
    by_cases c : (mayS k (d : Int) l).1 = false
    · rw [if_pos c] at h; cases h
    · rw [if_neg c] at h
      intro y hy
      rcases List.mem_cons.1 hy with rfl | hy
      · exact ih _ (List.mem_cons_self) l (by simpa using c)
      · exact any_ok d hd ks _ (fun k hk => ih k (List.mem_cons_of_mem _ hk)) h y hy
theorem may_ok : ∀ (d : Nat) (x : S40) (l : Int), d ≤ 8 → (mayS x (d : Int) l).1 = true → okS d x := by
  intro d
  induction d with
  | zero =>
    intro x l _ h
    rw [may_eq] at h
    split at h
    · cases h
    · rw [if_pos (show ((0 : Nat) : Int) = 0 from rfl)] at h; cases h
  | succ d ih =>
    intro x l hd h
    rw [may_eq] at h
    by_cases c1 : wrap64 (l - 1) < 0
    · rw [if_pos c1] at h; cases h
    rw [if_neg c1, if_neg (by omega)] at h
    by_cases c3 : fieldsB x.f0 x.f1 x.f2 x.f3 = false
    · rw [if_pos c3] at h; cases h
    rw [if_neg c3] at h
    by_cases c4 : (x.f4.length : Int) < leastB x.f0
    · rw [if_pos c4] at h; cases h
    rw [if_neg c4] at h
    by_cases c5 : mostB x.f0 < (x.f4.length : Int)
    · rw [if_pos c5] at h; cases h
    rw [if_neg c5] at h
    have e : wrap64 (((d + 1 : Nat) : Int) - 1) = (d : Int) := by rw [w64 (by omega) (by omega)]; omega
    rw [e] at h
    exact ⟨by simpa using c3, by omega, by omega, any_ok d (by omega) x.f4 _ (fun k _ l => ih k l (by omega)) (by simpa using h)⟩
theorem empty_of {nm : ByteArray} (h : nm.toList = []) : nm = emptyS := by
  have h1 : nm.data.toList = [] := by rw [← ByteArray.toList_eq]; exact h
  apply ByteArray.ext
  apply Array.toList_inj.1
  rw [h1]
  rfl
theorem name_size {nm : ByteArray} (h : Name.nameB nm = true) : nm.size ≤ 16 := by
  rw [Name.name_iff] at h
  simp only [Bool.and_eq_true, decide_eq_true_eq] at h
  exact h.2.2
/-- The fields that a scope that may be was put with are read. -/
theorem head_put {x : S40} (h : fieldsB x.f0 x.f1 x.f2 x.f3 = true) (h1 : leastB x.f0 ≤ (x.f4.length : Int)) (h2 : (x.f4.length : Int) ≤ mostB x.f0) (r : List Int) :
    headR x.f0 (some (headS x.f0 x.f1 x.f2 x.f3 x.f4.length ++ r)) = ((x.f1, x.f2, x.f3, (x.f4.length : Int)), some r) := by
  unfold fieldsB at h
  unfold headR headS
  split at h
  · cases h
  next c1 =>
  split at h
  · cases h
  next c2 =>
  split at h
  · cases h
  next c3 =>
  by_cases cn : namedB x.f0 = true
  · rw [if_pos cn, if_pos cn]
    have hn : Name.nameB x.f1 = true := by
      cases e : Name.nameB x.f1 with
      | false => exact absurd ⟨cn, e⟩ c2
      | true => rfl
    rw [text_textB (by rw [bytesOf_length]; have := name_size hn; omega) (by decide), str_bytes]
    have hop : x.f0 = 2 ∨ x.f0 = 3 ∨ x.f0 = 4 := by
      unfold namedB at cn
      simp only [Bool.or_eq_true, decide_eq_true_eq] at cn
      omega
    have hl : leastB x.f0 = 0 ∧ mostB x.f0 = 0 := by
      unfold leastB mostB
      rcases hop with e | e | e <;> rw [e] <;> decide
    rw [if_neg (by omega)] at h
    simp only [Bool.and_eq_true, decide_eq_true_eq] at h
    rw [h.1, h.2, hl.1, show (x.f4.length : Int) = 0 by omega]
  · have ce : x.f1 = emptyS := by
      by_cases e : x.f1.toList = []
      · exact empty_of e
      · exact absurd ⟨by simpa using cn, e⟩ c3
    rw [if_neg cn, if_neg cn]
    by_cases c5 : x.f0 = 5
    · rw [if_pos c5] at h
      simp only [Bool.and_eq_true, decide_eq_true_eq] at h
      rw [if_pos c5, if_pos c5]
      have u1 : intB x.f2 = numB x.f2 := by unfold intB; rw [u64 h.1 (by omega)]
      have u2 : intB x.f3 = numB x.f3 := by unfold intB; rw [u64 (by omega) (by omega)]
      rw [u1, u2, List.append_assoc, count_numB h.1 (by omega) (by decide), count_numB (by omega) h.2.2 (by decide)]
      have hl : leastB x.f0 = 0 ∧ mostB x.f0 = 0 := by
        unfold leastB mostB
        rw [c5]; decide
      rw [hl.1, ce, show (x.f4.length : Int) = 0 by omega]
    · rw [if_neg c5] at h
      simp only [Bool.and_eq_true, decide_eq_true_eq] at h
      rw [if_neg c5, if_neg c5]
      by_cases c6 : x.f0 = 6 ∨ x.f0 = 7
      · rw [if_pos c6, if_pos c6]
        have hl : mostB x.f0 = 24 := by
          unfold mostB
          rcases c6 with e | e <;> rw [e] <;> decide
        have u1 : intB (x.f4.length : Int) = numB (x.f4.length : Int) := by unfold intB; rw [u64 (by omega) (by omega)]
        rw [u1, count_numB (by omega) (by omega) (by decide), ce, h.1, h.2]
      · rw [if_neg c6, if_neg c6, ce, h.1, h.2, List.nil_append]
        have hl : leastB x.f0 = mostB x.f0 := by
          unfold leastB mostB
          by_cases c8 : x.f0 = 8
          · rw [if_pos c8, if_pos c8]
          · rw [if_neg c8, if_neg c8, if_neg (by omega), if_neg (by omega), if_neg (by omega), if_neg (by omega)]
        rw [show leastB x.f0 = (x.f4.length : Int) by omega]
theorem putL_map : ∀ ks : List S40, putL ks = (ks.map putS).flatten
  | [] => by rw [putL]; rfl
  | k :: ks => by rw [putL, putL_map ks]; rfl
theorem read_put : ∀ (d : Nat) (x : S40), okS d x → ∀ r, readS d (some (putS x ++ r)) = some (x, r) := by
  intro d
  induction d with
  | zero => intro x h; exact h.elim
  | succ d ih =>
    intro x h r
    obtain ⟨h1, h2, h3, h4⟩ := h
    have hop : 1 ≤ x.f0 ∧ x.f0 ≤ 8 := by
      unfold fieldsB at h1
      split at h1
      · cases h1
      · next c => omega
    have t : takeO (some (putS x ++ r)) 1 = ([x.f0], some (headS x.f0 x.f1 x.f2 x.f3 x.f4.length ++ (putL x.f4 ++ r))) := by
      rw [put_eq, List.cons_append, List.append_assoc]
      simp only [takeO]
      rw [if_pos (by rw [List.length_cons]; omega), show x.f0 % 256 = x.f0 by omega]
      rfl
    rw [readS, t]
    simp only [List.getD_cons_zero]
    rw [head_put h1 h2 h3]
    dsimp only
    rw [Int.toNat_natCast, putL_map, readK_put x.f4 r (fun k hk => ih k (h4 k hk))]
    obtain ⟨_, _, _, _, _⟩ := x
    rfl
theorem sc_get_put {x : S40} (h : mayB x = true) : getSc (putS x) = (x, 0) := by
  have := read_put 8 x (may_ok 8 x 24 (by omega) h) []
  rw [List.append_nil] at this
  unfold getSc
  rw [this]
  dsimp only
  rw [if_pos h]
theorem head_back {op : Int} {b : List Int} (hu : U8 b) {nm : ByteArray} {fr to_ n : Int} {r : List Int} (h : headR op (some b) = ((nm, fr, to_, n), some r)) :
    U8 r ∧ 0 ≤ n ∧ n ≤ 24 ∧ ∀ kids : List S40, (kids.length : Int) = n → b = headS op nm fr to_ kids.length ++ r := by
  unfold headR at h
  unfold headS
  have hl : 0 ≤ leastB op ∧ leastB op ≤ 24 := by unfold leastB; repeat' split <;> omega
  by_cases cn : namedB op = true
  · rw [if_pos cn] at h
    simp only [Prod.mk.injEq] at h
    obtain ⟨⟨e1, e2, e3, e4⟩, e5⟩ := h
    obtain ⟨t, ht⟩ : ∃ t, textO (some b) 16 = (t, some r) := ⟨_, by rw [← e5]⟩
    obtain ⟨k1, _⟩ := text_back hu ht
    obtain ⟨u1, u2⟩ := textO_u8' hu ht
    rw [ht] at e1
    refine ⟨u2, by omega, by omega, fun kids _ => ?_⟩
    rw [if_pos cn, ← e1, bytes_str u1]
    exact k1
  · rw [if_neg cn] at h
    by_cases c5 : op = 5
    · rw [if_pos c5] at h
      simp only [Prod.mk.injEq] at h
      obtain ⟨⟨e1, e2, e3, e4⟩, e5⟩ := h
      obtain ⟨m, s, hm⟩ : ∃ m s, countO (some b) 1099511627776 = (m, s) := ⟨_, _, rfl⟩
      rw [hm] at e2 e3 e5
      cases s with
      | none => rw [count_none] at e5; cases e5
      | some s =>
        obtain ⟨k1, k2, k3⟩ := count_back hu hm
        have u1 := countO_u8' hu hm
        dsimp only at e2 e3 e5
        obtain ⟨m2, hm2⟩ : ∃ m2, countO (some s) 1099511627776 = (m2, some r) := ⟨_, by rw [← e5]⟩
        obtain ⟨k4, k5, k6⟩ := count_back u1 hm2
        have u2 := countO_u8' u1 hm2
        rw [hm2] at e3
        dsimp only at e3
        refine ⟨u2, by omega, by omega, fun kids _ => ?_⟩
        rw [if_neg cn, if_pos c5, ← e2, ← e3]
        unfold intB
        rw [u64 k2 (by omega), u64 k5 (by omega), List.append_assoc, ← k4]
        exact k1
    · rw [if_neg c5] at h
      by_cases c6 : op = 6 ∨ op = 7
      · rw [if_pos c6] at h
        simp only [Prod.mk.injEq] at h
        obtain ⟨⟨e1, e2, e3, e4⟩, e5⟩ := h
        obtain ⟨m, hm⟩ : ∃ m, countO (some b) 24 = (m, some r) := ⟨_, by rw [← e5]⟩
        obtain ⟨k1, k2, k3⟩ := count_back hu hm
        have u1 := countO_u8' hu hm
        rw [hm] at e4
        dsimp only at e4
        refine ⟨u1, by omega, by omega, fun kids hk => ?_⟩
        rw [if_neg cn, if_neg c5, if_pos c6]
        unfold intB
        rw [u64 (by omega) (by omega), hk, ← e4]
        exact k1
      · rw [if_neg c6] at h
        simp only [Prod.mk.injEq, Option.some.injEq] at h
        obtain ⟨⟨e1, e2, e3, e4⟩, e5⟩ := h
        subst e5
        refine ⟨hu, by omega, by omega, fun kids _ => ?_⟩
        rw [if_neg cn, if_neg c5, if_neg c6, List.nil_append]
theorem read_back : ∀ (d : Nat) (b : List Int) (x : S40) (r : List Int), U8 b → readS d (some b) = some (x, r) → b = putS x ++ r ∧ U8 r := by
  intro d
  induction d with
  | zero => intro b x r _ h; cases h
  | succ d ih =>
    intro b x r hu h
    rw [readS] at h
    cases b with
    | nil => simp [takeO] at h
    | cons c b =>
      have t : takeO (some (c :: b)) 1 = ([c], some b) := by
        simp only [takeO]
        rw [if_pos (by rw [List.length_cons]; omega)]
        rfl
      rw [t] at h
      simp only [List.getD_cons_zero] at h
      obtain ⟨q, hq⟩ : ∃ q, headR c (some b) = q := ⟨_, rfl⟩
      obtain ⟨⟨nm, fr, to_, n⟩, s⟩ := q
      rw [hq] at h
      dsimp only at h
      cases s with
      | none =>
        cases hk : readK (readS d) n.toNat none with
        | none => rw [hk] at h; cases h
        | some q =>
          obtain ⟨ks, s⟩ := q
          rw [hk] at h
          cases s with
          | none => cases h
          | some s =>
            exact (readK_none (by cases d <;> rfl) hk).elim
      | some s =>
        obtain ⟨u1, n0, n1, hb⟩ := head_back hu.tail hq
        cases hk : readK (readS d) n.toNat (some s) with
        | none => rw [hk] at h; cases h
        | some q =>
          obtain ⟨ks, s2⟩ := q
          rw [hk] at h
          cases s2 with
          | none => cases h
          | some s2 =>
            simp only [Option.some.injEq, Prod.mk.injEq] at h
            obtain ⟨rfl, rfl⟩ := h
            obtain ⟨l1, l2, l3⟩ := readK_back ih n.toNat s ks s2 u1 hk
            refine ⟨?_, l3⟩
            rw [put_eq]
            dsimp only
            have hc := hu.head
            rw [show c % 256 = c by omega, List.cons_append, List.append_assoc, putL_map, ← l2, hb ks (by omega)]
theorem sc_put_get {b : List Int} (hu : U8 b) {x : S40} (h : getSc b = (x, 0)) : mayB x = true ∧ putS x = b := by
  unfold getSc at h
  cases hr : readS 8 (some b) with
  | none => rw [hr] at h; simp at h
  | some p =>
    obtain ⟨y, r⟩ := p
    rw [hr] at h
    cases r with
    | cons c r => simp at h
    | nil =>
      dsimp only at h
      split at h
      · next hm =>
        simp only [Prod.mk.injEq, and_true] at h
        subst h
        have := read_back 8 b y [] hu hr
        rw [List.append_nil] at this
        exact ⟨hm, this.1.symm⟩
      · simp at h
end Go.Proofs.Ytgdpabedlghiaaa.Scope
