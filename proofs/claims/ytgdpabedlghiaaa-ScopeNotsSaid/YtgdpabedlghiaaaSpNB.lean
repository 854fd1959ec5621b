/- Own and printed texts, laid together. -/
import Derived.Test.YtgdpabedlghiaaaSpNA
/- scope.counter.may and scope.Check walked (printed by gen_scopemay.py). -/
namespace Go.Proofs.Ytgdpabedlghiaaa.Scope
set_option linter.unusedVariables false
set_option linter.unusedSimpArgs false
open Go.RowKit Go.Proofs.YtgdpabedlghiaaaW.PrintWords Go.Proofs.YtgdpabedlghiaaaW.PrintLast Go.Proofs.YtgdpabedlghiaaaW.PrintMore Go.Proofs.Ytgdpabedlghiaaa.PZ
def namedB (op : Int) : Bool := decide (op = 2) || decide (op = 3) || decide (op = 4)
def fieldsB (op : Int) (nm : ByteArray) (fr to_ : Int) : Bool :=
  if op < 1 ∨ op > 8 then false else if namedB op = true ∧ Name.nameB nm = false then false else if namedB op = false ∧ nm.toList ≠ [] then false
  else if op = 5 then decide (fr ≥ 0) && (decide (fr ≤ to_) && decide (to_ ≤ 1099511627776)) else decide (fr = 0) && decide (to_ = 0)
theorem named_v (op : Int) : scope_named.f op = some (namedB op) := by
  unfold scope_named.f namedB
  by_cases h2 : op = 2
  · simp [h2]
  · by_cases h3 : op = 3
    · simp [h3]
    · by_cases h4 : op = 4 <;> simp [h2, h3, h4]
theorem fields_j2 (k : Nat) (b : Bool) (op : Int) (nm : ByteArray) (fr to_ : Int) (l : List S40) : scope_fields.j2 (k + 1) b op nm fr to_ l = some (if b = true then false else if op = 5 then decide (fr ≥ 0) && (decide (fr ≤ to_) && decide (to_ ≤ 1099511627776)) else decide (fr = 0) && decide (to_ = 0)) := by
  unfold scope_fields.j2
  cases b
  · by_cases h5 : op = 5
    · by_cases h1 : fr ≥ 0
      · by_cases h2 : fr ≤ to_ <;> simp [h5, h1, h2]
      · simp [h5, h1]
    · by_cases h1 : fr = 0
      · by_cases h2 : to_ = 0 <;> simp [h5, h1, h2]
      · simp [h5, h1]
  · simp
theorem fields_j1 (k : Nat) (b : Bool) (op : Int) (nm : ByteArray) (fr to_ : Int) (l : List S40) : scope_fields.j1 (k + 2) b op nm fr to_ l = some (if b = true then false else if namedB op = false ∧ nm.toList ≠ [] then false else if op = 5 then decide (fr ≥ 0) && (decide (fr ≤ to_) && decide (to_ ≤ 1099511627776)) else decide (fr = 0) && decide (to_ = 0)) := by
  rw [show k + 2 = (k + 1) + 1 from rfl, scope_fields.j1]
  cases b
  · rw [if_neg (by decide), named_v, Option.bind_some]
    cases hn : namedB op
    · rw [if_neg (by decide), fields_j2]
      by_cases hs : nm.toList = [] <;> simp [hs]
    · rw [if_pos rfl, fields_j2]
      simp
  · rw [if_pos rfl, fields_j2]
    simp
theorem fields_j0 (k : Nat) (b : Bool) (op : Int) (nm : ByteArray) (fr to_ : Int) (l : List S40) : scope_fields.j0 (k + 3) b op nm fr to_ l = some (if b = true then false else if namedB op = true ∧ Name.nameB nm = false then false else if namedB op = false ∧ nm.toList ≠ [] then false else if op = 5 then decide (fr ≥ 0) && (decide (fr ≤ to_) && decide (to_ ≤ 1099511627776)) else decide (fr = 0) && decide (to_ = 0)) := by
  rw [show k + 3 = (k + 2) + 1 from rfl, scope_fields.j0]
  cases b
  · rw [if_neg (by decide), named_v, Option.bind_some]
    cases hn : namedB op
    · rw [if_neg (by decide), fields_j1, hn]
      simp
    · rw [if_pos rfl]
      unfold inode_Name.f
      rw [Option.bind_some, fields_j1, hn]
      cases hm : Name.nameB nm <;> simp
  · rw [if_pos rfl]
    simp
theorem fields_v (k : Nat) (op : Int) (nm : ByteArray) (fr to_ : Int) (l : List S40) : scope_fields.f (k + 3) op nm fr to_ l = some (fieldsB op nm fr to_) := by
  unfold scope_fields.f fieldsB
  by_cases h1 : op < 1
  · rw [if_pos h1, fields_j0, if_pos rfl, if_pos (Or.inl h1)]
  · rw [if_neg h1, fields_j0]
    by_cases h8 : op > 8
    · rw [decide_eq_true h8, if_pos rfl, if_pos (Or.inr h8)]
    · rw [decide_eq_false h8, if_neg (by decide), if_neg (by omega : ¬ (op < 1 ∨ op > 8))]
def leastB (op : Int) : Int := if op = 8 then 1 else if op = 6 then 2 else if op = 7 then 2 else 0
def mostB (op : Int) : Int := if op = 8 then 1 else if op = 6 then 24 else if op = 7 then 24 else 0
theorem kids_v (op : Int) : scope_kids.f op = some (leastB op, mostB op) := by
  unfold scope_kids.f leastB mostB
  by_cases h8 : op = 8
  · simp [h8]
  · by_cases h6 : op = 6
    · simp [h6]
    · by_cases h7 : op = 7 <;> simp [h8, h6, h7]
mutual
/-- May a scope be, so deep, with so many nodes left? And how many are left. -/
def mayS : S40 → Int → Int → Bool × Int
  | ⟨op, nm, fr, to_, kids⟩, deep, left =>
    if wrap64 (left - 1) < 0 then (false, wrap64 (left - 1)) else if deep = 0 then (false, wrap64 (left - 1)) else if fieldsB op nm fr to_ = false then (false, wrap64 (left - 1))
    else if (kids.length : Int) < leastB op then (false, wrap64 (left - 1)) else if mostB op < (kids.length : Int) then (false, wrap64 (left - 1))
    else (!(mayAny kids (wrap64 (deep - 1)) (wrap64 (left - 1))).1, (mayAny kids (wrap64 (deep - 1)) (wrap64 (left - 1))).2)
def mayAny : List S40 → Int → Int → Bool × Int
  | [], _, l => (false, l)
  | k :: ks, d, l => if (mayS k d l).1 = false then (true, (mayS k d l).2) else mayAny ks d (mayS k d l).2
end
theorem mayAny_run (d : Int) : ∀ (ks : List S40) (l : Int), runAny (fun k l => (!(mayS k d l).1, (mayS k d l).2)) ks l = mayAny ks d l
  | [], l => by simp [runAny, mayAny]
  | k :: ks, l => by
    rw [runAny, mayAny]
    cases h : (mayS k d l).1
    · simp
    · simp [mayAny_run d ks]
/-- All but one block stands. -/
def Kp (g : Nat) (w w' : World) : Prop := Below g w w' ∧ ∀ k, k ≠ g → k < w.heap.size → w'.heap[k]? = w.heap[k]?
theorem Kp.refl (g : Nat) (w : World) : Kp g w w := ⟨Below.refl _ _, fun _ _ _ => rfl⟩
theorem Kp.trans {g : Nat} {a b c : World} (h : Kp g a b) (k : Kp g b c) : Kp g a c := ⟨h.1.trans k.1, fun i hi hl => (k.2 i hi (Nat.lt_of_lt_of_le hl h.1.size)).trans (h.2 i hi hl)⟩
theorem Kp.of_below {g : Nat} {a b : World} (h : Below a.heap.size a b) (hg : g ≤ a.heap.size) : Kp g a b := ⟨h.mono hg, fun k _ hl => h.block k hl⟩
theorem Kp.set (g : Nat) (w : World) (v : Value) : Kp g w (w.setCell ⟨g, 0, none⟩ v) :=
  ⟨⟨rfl, rfl, rfl, by simp [World.setCell], fun k hk => Below.heap_setCell w ⟨g, 0, none⟩ v k (Nat.ne_of_lt hk)⟩, fun k hk _ => Below.heap_setCell w ⟨g, 0, none⟩ v k hk⟩
theorem Blk.kp {g k T : Nat} {w w' : World} {cs : Array Value} (h : Blk w k T cs) (hk : Kp g w w') (hne : k ≠ g) : Blk w' k T cs := (hk.2 k hne (blk_lt h)).trans h
theorem Kp.base {g b : Nat} {w0 w w' : World} (h : Kp g w w') (hb : Below b w0 w) (hg : b ≤ g) : Below b w0 w' := hb.trans (h.1.mono hg)
/-- What is known of may at a scope. -/
def MayC (x : S40) : Prop := ∀ (gc : Nat) (deep left : Int) A c w0 w, Kd.C k40 w0 A x.f4.length x.f4 → x.f4.length ≤ c → w0.heap.size ≤ gc → Below w0.heap.size w0 w → Blk w gc 94 #[.int .i64 left] →
  Calls Try.prog 70 #[.pointer (some ⟨gc, 0, none⟩), .agg #[.int .i64 x.f0, .string x.f1, .int .i64 x.f2, .int .i64 x.f3, .slice A x.f4.length c], .int .i64 deep] w fun e w' => e = .returned (.bool (mayS x deep left).1) ∧ Blk w' gc 94 #[.int .i64 (mayS x deep left).2] ∧ Kp gc w w'
set_option maxHeartbeats 1000000 in
set_option maxRecDepth 100000 in
theorem mayk_c {x : S40} (hm : MayC x) (gc g0 g1 : Nat) (deep left : Int) (A : Option Addr) (c : Nat) (w0 w : World) (hr : Kd.C k40 w0 A x.f4.length x.f4) (hc : x.f4.length ≤ c) (hg : w0.heap.size ≤ gc) (hb : Below w0.heap.size w0 w) (hL : Blk w gc 94 #[.int .i64 left])
    (h0 : Blk w g0 92 #[.pointer (some ⟨gc, 0, none⟩)]) (h1 : Blk w g1 3 #[.int .i64 deep]) :
    Calls Try.prog 114 #[.agg #[.int .i64 x.f0, .string x.f1, .int .i64 x.f2, .int .i64 x.f3, .slice A x.f4.length c], .pointer (some ⟨g0, 0, none⟩), .pointer (some ⟨g1, 0, none⟩)] w fun e w' => e = .returned (.bool (!(mayS x (wrap64 (deep - 1)) left).1)) ∧ Blk w' gc 94 #[.int .i64 (mayS x (wrap64 (deep - 1)) left).2] ∧ Kp gc w w' := by
  have HK := Aside0.mk (Kp.of_below (g := gc) (below_alloc (Below.refl w.heap.size w) (.cells #[.int .i64 x.f0, .string x.f1, .int .i64 x.f2, .int .i64 x.f3, .slice A x.f4.length c] 40)) (Nat.le_of_lt hL.lt))
  have HC := Aside0.mk (hm gc (wrap64 (deep - 1)) left A c w0 _ hr hc hg (below_alloc hb (.cells #[.int .i64 x.f0, .string x.f1, .int .i64 x.f2, .int .i64 x.f3, .slice A x.f4.length c] 40)) (hL.alloc _))
  have d0 := (h0.alloc (.cells #[.int .i64 x.f0, .string x.f1, .int .i64 x.f2, .int .i64 x.f3, .slice A x.f4.length c] 40)).cell 0
  have d1 := (h1.alloc (.cells #[.int .i64 x.f0, .string x.f1, .int .i64 x.f2, .int .i64 x.f3, .slice A x.f4.length c] 40)).cell 0
  simp only [List.getElem?_toArray, List.getElem?_cons_zero] at d0 d1
  have hu40 := Try.underlying40
  obtain ⟨r, hr_⟩ : ∃ r, mayS x (wrap64 (deep - 1)) left = r := ⟨_, rfl⟩
  rw [hr_] at HC ⊢
  obtain ⟨b, l2⟩ := r
  clear hm hr hc hg hb hL h0 h1 hr_
  dsimp only at HC ⊢
  go_enter Try.func114, Try.ntmps114
  go_wp2_with (go_at_call 70; refine HC.out.mono ?_; rintro e w' ⟨rfl, h1, h2⟩; have H1 := Aside0.mk h1; have H2 := Aside0.mk (HK.out.trans h2); clear h1 h2)
  go_ret
  exact ⟨rfl, H1.out, H2.out⟩
theorem below_step_b {b : Nat} {w0 w w' : World} (h : Below b w0 w) (k : Below w.heap.size w w') (hb : b ≤ w.heap.size := by omega) : Below b w0 w' := h.trans (k.mono hb)
theorem blk1 (w : World) (a o : Obj) : ((w.alloc a).alloc o).heap[w.heap.size]? = some a := blk_alloc (blk_new _ _) _
set_option maxHeartbeats 4000000 in
set_option maxRecDepth 100000 in
theorem may_n : ∀ (n : Nat) (x : S40), SizeOf.sizeOf x < n → MayC x := by
  intro n
  induction n with
  | zero => intro x h; exact absurd h (by omega)
  | succ n ih =>
  intro x hn gc deep left A c w0 w hr hc hg hb hL
  have HIH := Aside0.mk (fun k (hk : k ∈ x.f4) => ih k (by have := kid_lt hk; omega))
  have HR := Aside0.mk hr
  have HC := Aside0.mk hc
  have HG := Aside0.mk hg
  have HV := Aside0.mk (show mayS x deep left = if wrap64 (left - 1) < 0 then (false, wrap64 (left - 1)) else if deep = 0 then (false, wrap64 (left - 1)) else if fieldsB x.f0 x.f1 x.f2 x.f3 = false then (false, wrap64 (left - 1))
      else if (x.f4.length : Int) < leastB x.f0 then (false, wrap64 (left - 1)) else if mostB x.f0 < (x.f4.length : Int) then (false, wrap64 (left - 1))
      else (!(mayAny x.f4 (wrap64 (deep - 1)) (wrap64 (left - 1))).1, (mayAny x.f4 (wrap64 (deep - 1)) (wrap64 (left - 1))).2) by
    obtain ⟨op, nm, fr, to_, kids⟩ := x
    simp only [mayS])
  have HKV := Aside0.mk (kids_v x.f0)
  have HFV := Aside0.mk (fields_v 0 x.f0 x.f1 x.f2 x.f3 x.f4)
  obtain ⟨lo, hlo⟩ : ∃ v, leastB x.f0 = v := ⟨_, rfl⟩
  obtain ⟨hi, hhi⟩ : ∃ v, mostB x.f0 = v := ⟨_, rfl⟩
  obtain ⟨fb, hfb⟩ : ∃ v, fieldsB x.f0 x.f1 x.f2 x.f3 = v := ⟨_, rfl⟩
  obtain ⟨l1, hl1⟩ : ∃ v, wrap64 (left - 1) = v := ⟨_, rfl⟩
  rw [hlo, hhi] at HKV
  rw [hfb] at HFV
  rw [hlo, hhi, hfb, hl1] at HV
  have hne := Nat.ne_of_lt hL.lt
  have H0 := Aside0.mk (show Blk (((w.alloc (.cells #[.pointer (some ⟨gc, 0, none⟩)] 92)).alloc (.cells #[.int .i64 x.f0, .string x.f1, .int .i64 x.f2, .int .i64 x.f3, .slice A x.f4.length c] 40)).alloc (.cells #[.int .i64 deep] 3)) w.heap.size 92 #[.pointer (some ⟨gc, 0, none⟩)] from blk_alloc (blk1 _ _ _) _)
  have H1 := Aside0.mk (show Blk (((w.alloc (.cells #[.pointer (some ⟨gc, 0, none⟩)] 92)).alloc (.cells #[.int .i64 x.f0, .string x.f1, .int .i64 x.f2, .int .i64 x.f3, .slice A x.f4.length c] 40)).alloc (.cells #[.int .i64 deep] 3)) (w.heap.size + 1) 40 #[.int .i64 x.f0, .string x.f1, .int .i64 x.f2, .int .i64 x.f3, .slice A x.f4.length c] from blk_alloc (blk2 _ _ _) _)
  have H2 := Aside0.mk (show Blk (((w.alloc (.cells #[.pointer (some ⟨gc, 0, none⟩)] 92)).alloc (.cells #[.int .i64 x.f0, .string x.f1, .int .i64 x.f2, .int .i64 x.f3, .slice A x.f4.length c] 40)).alloc (.cells #[.int .i64 deep] 3)) (w.heap.size + 1 + 1) 3 #[.int .i64 deep] from blk3 _ _ _ _)
  have HLL := Aside0.mk (show Blk (((w.alloc (.cells #[.pointer (some ⟨gc, 0, none⟩)] 92)).alloc (.cells #[.int .i64 x.f0, .string x.f1, .int .i64 x.f2, .int .i64 x.f3, .slice A x.f4.length c] 40)).alloc (.cells #[.int .i64 deep] 3)) gc 94 #[.int .i64 left] from ((hL.alloc _).alloc _).alloc _)
  have HBB := Aside0.mk (show Below w0.heap.size w0 (((w.alloc (.cells #[.pointer (some ⟨gc, 0, none⟩)] 92)).alloc (.cells #[.int .i64 x.f0, .string x.f1, .int .i64 x.f2, .int .i64 x.f3, .slice A x.f4.length c] 40)).alloc (.cells #[.int .i64 deep] 3)) from below_alloc (below_alloc (below_alloc hb _) _) _)
  have HKP := Aside0.mk (show Kp gc w (((w.alloc (.cells #[.pointer (some ⟨gc, 0, none⟩)] 92)).alloc (.cells #[.int .i64 x.f0, .string x.f1, .int .i64 x.f2, .int .i64 x.f3, .slice A x.f4.length c] 40)).alloc (.cells #[.int .i64 deep] 3)) from Kp.of_below (below_alloc (below_alloc (below_alloc (Below.refl _ _) _) _) _) (Nat.le_of_lt hL.lt))
  have HNE := Aside0.mk (show w.heap.size ≠ gc ∧ w.heap.size + 1 ≠ gc ∧ w.heap.size + 1 + 1 ≠ gc by have := hL.lt; omega)
  have hcz := HLL.out.cell 0
  have hfz := blk_frozen HLL.out 0
  have d0 := H0.out.cell 0
  simp only [List.getElem?_toArray, List.getElem?_cons_zero] at hcz d0
  obtain ⟨r, hrr⟩ : ∃ r, mayS x deep left = r := ⟨_, rfl⟩
  rw [hrr] at HV ⊢
  clear hr hc hn ih hg hb hL hlo hhi hfb hrr hne
  have hu40 := Try.underlying40
  have hu38 := Try.underlying38
  have hu94 := Try.underlying94
  obtain ⟨g, hg⟩ : ∃ g, w.heap.size = g := ⟨_, rfl⟩
  go_enter Try.func70, Try.ntmps70
  clear hg
  go_upto_region 2 with (fail)
  obtain ⟨V, hV⟩ : ∃ V, (((w.alloc (.cells #[.pointer (some ⟨gc, 0, none⟩)] 92)).alloc (.cells #[.int .i64 x.f0, .string x.f1, .int .i64 x.f2, .int .i64 x.f3, .slice A x.f4.length c] 40)).alloc (.cells #[.int .i64 deep] 3)) = V := ⟨_, rfl⟩
  rw [hV] at H0 H1 H2 HLL HBB HKP hcz hfz d0 ⊢
  clear hV hcz hfz d0
  rw [hl1]
  obtain ⟨V1, hV⟩ : ∃ V1, V.setCell ⟨gc, 0, none⟩ (.int .i64 l1) = V1 := ⟨_, rfl⟩
  have HK1 := Aside0.mk (show Kp gc V V1 by rw [← hV]; exact Kp.set gc V _)
  have HL1 := Aside0.mk (show Blk V1 gc 94 #[.int .i64 l1] by rw [← hV]; exact blk_set HLL.out 0 _)
  rw [hV]
  have q0 := (H1.out.kp HK1.out HNE.out.2.1).cell 0
  simp only [List.getElem?_toArray, List.getElem?_cons_zero] at q0
  clear hV
  go_upto_region 3 with (go_at_call 112; refine (scope_kids.calls x.f0 lo hi _ HKV.out).mono ?_; rintro e w' ⟨rfl, hd⟩; have HD := Aside0.mk hd.below; clear hd)
  rename_i V2
  clear q0
  have hn_ := HNE.out
  have HK2 := Aside0.mk ((HKP.out.trans HK1.out).trans (Kp.of_below HD.out (Nat.le_of_lt HL1.out.lt)))
  have HL2 := Aside0.mk (HL1.out.below HD.out)
  have HB2 := Aside0.mk ((HK1.out.trans (Kp.of_below HD.out (Nat.le_of_lt HL1.out.lt))).base HBB.out HG.out)
  have HA0 := Aside0.mk (Blk.below (H0.out.kp HK1.out hn_.1) HD.out)
  have HA1 := Aside0.mk (Blk.below (H1.out.kp HK1.out hn_.2.1) HD.out)
  have HA2 := Aside0.mk (Blk.below (H2.out.kp HK1.out hn_.2.2) HD.out)
  clear hn_ HD HK1 HL1 H0 H1 H2 HLL HKP HBB HKV
  have d0 := HA0.out.cell 0
  have q0 := HA1.out.cell 0
  have q1 := HA1.out.cell 1
  have q2 := HA1.out.cell 2
  have q3 := HA1.out.cell 3
  have q4 := HA1.out.cell 4
  have d2 := HA2.out.cell 0
  have l0 := HL2.out.cell 0
  simp only [List.getElem?_toArray, List.getElem?_cons_zero, List.getElem?_cons_succ] at d0 q0 q1 q2 q3 q4 d2 l0
  have HV1 := HV.out
  clear HV
  by_cases c1 : l1 < 0
  · have z1 : decide (l1 < 0) = true := decide_eq_true c1
    rw [if_pos c1] at HV1
    subst HV1
    clear c1
    go_wp2
    go_ret
    exact ⟨rfl, HL2.out, HK2.out⟩
  have z1 : decide (l1 < 0) = false := decide_eq_false c1
  rw [if_neg c1] at HV1
  clear c1
  by_cases c2 : deep = 0
  · have z2 : (deep == 0) = true := beq_iff_eq.mpr c2
    rw [if_pos c2] at HV1
    subst HV1
    clear c2
    go_wp2
    go_ret
    exact ⟨rfl, HL2.out, HK2.out⟩
  have z2 : (deep == 0) = false := beq_eq_false_iff_ne.mpr c2
  rw [if_neg c2] at HV1
  clear c2
  cases fb with
  | false =>
    rw [if_pos rfl] at HV1
    subst HV1
    go_wp2_with (go_at_call 113; refine (scope_fields.calls (0 + 3) x.f0 x.f1 x.f2 x.f3 A c x.f4 false _ (Kd.C_below HR.out HB2.out) HC.out HFV.out).mono ?_; rintro e w' ⟨rfl, hb⟩; have HL3 := Aside0.mk (HL2.out.below hb); have HK3 := Aside0.mk (HK2.out.trans (Kp.of_below hb (Nat.le_of_lt HL2.out.lt))); have HB3 := Aside0.mk (below_step HB2.out hb); have e0 := HA1.out.below hb; have e4 := e0.cell 4; have e2 := HA2.out.below hb; have HE0 := Aside0.mk (HA0.out.below hb); have HE2 := Aside0.mk e2; simp only [List.getElem?_toArray, List.getElem?_cons_zero, List.getElem?_cons_succ] at e4; clear e0 e2 hb)
    go_ret
    exact ⟨rfl, HL3.out, HK3.out⟩
  | true =>
    rw [if_neg (by decide)] at HV1
    by_cases c4 : (x.f4.length : Int) < lo
    · have z4 : decide ((x.f4.length : Int) < lo) = true := decide_eq_true c4
      rw [if_pos c4] at HV1
      subst HV1
      clear c4
      go_wp2_with (go_at_call 113; refine (scope_fields.calls (0 + 3) x.f0 x.f1 x.f2 x.f3 A c x.f4 true _ (Kd.C_below HR.out HB2.out) HC.out HFV.out).mono ?_; rintro e w' ⟨rfl, hb⟩; have HL3 := Aside0.mk (HL2.out.below hb); have HK3 := Aside0.mk (HK2.out.trans (Kp.of_below hb (Nat.le_of_lt HL2.out.lt))); have HB3 := Aside0.mk (below_step HB2.out hb); have e0 := HA1.out.below hb; have e4 := e0.cell 4; have e2 := HA2.out.below hb; have HE0 := Aside0.mk (HA0.out.below hb); have HE2 := Aside0.mk e2; simp only [List.getElem?_toArray, List.getElem?_cons_zero, List.getElem?_cons_succ] at e4; clear e0 e2 hb)
      go_ret
      exact ⟨rfl, HL3.out, HK3.out⟩
    have z4 : decide ((x.f4.length : Int) < lo) = false := decide_eq_false c4
    rw [if_neg c4] at HV1
    clear c4
    by_cases c5 : hi < (x.f4.length : Int)
    · have z5 : decide (hi < (x.f4.length : Int)) = true := decide_eq_true c5
      rw [if_pos c5] at HV1
      subst HV1
      clear c5
      go_wp2_with (go_at_call 113; refine (scope_fields.calls (0 + 3) x.f0 x.f1 x.f2 x.f3 A c x.f4 true _ (Kd.C_below HR.out HB2.out) HC.out HFV.out).mono ?_; rintro e w' ⟨rfl, hb⟩; have HL3 := Aside0.mk (HL2.out.below hb); have HK3 := Aside0.mk (HK2.out.trans (Kp.of_below hb (Nat.le_of_lt HL2.out.lt))); have HB3 := Aside0.mk (below_step HB2.out hb); have e0 := HA1.out.below hb; have e4 := e0.cell 4; have e2 := HA2.out.below hb; have HE0 := Aside0.mk (HA0.out.below hb); have HE2 := Aside0.mk e2; simp only [List.getElem?_toArray, List.getElem?_cons_zero, List.getElem?_cons_succ] at e4; clear e0 e2 hb)
      go_ret
      exact ⟨rfl, HL3.out, HK3.out⟩
    have z5 : decide (hi < (x.f4.length : Int)) = false := decide_eq_false c5
    rw [if_neg c5] at HV1
    clear c5
    have HAY := Aside0.mk (fun W (h0 : Blk W gc 94 #[.int .i64 l1] ∧ Blk W w.heap.size 92 #[.pointer (some ⟨gc, 0, none⟩)] ∧ Blk W (w.heap.size + 1 + 1) 3 #[.int .i64 deep] ∧ Below w0.heap.size w0 W ∧ Kp gc w W) => any_may w.heap.size (w.heap.size + 1 + 1) (fun k l => (!(mayS k (wrap64 (deep - 1)) l).1, (mayS k (wrap64 (deep - 1)) l).2)) (fun l W => Blk W gc 94 #[.int .i64 l] ∧ Blk W w.heap.size 92 #[.pointer (some ⟨gc, 0, none⟩)] ∧ Blk W (w.heap.size + 1 + 1) 3 #[.int .i64 deep] ∧ Below w0.heap.size w0 W ∧ Kp gc w W) A x.f4 c w0 HR.out (fun _ _ h => h.2.2.2.1) (by
      intro k hk l W A4 c4 hi_ h1 h2
      refine (mayk_c (HIH.out k hk) gc w.heap.size (w.heap.size + 1 + 1) deep l A4 c4 w0 W h1 h2 HG.out hi_.2.2.2.1 hi_.1 hi_.2.1 hi_.2.2.1).mono ?_
      rintro e w' ⟨rfl, g1, g2⟩
      exact ⟨rfl, g1, hi_.2.1.kp g2 HNE.out.1, hi_.2.2.1.kp g2 HNE.out.2.2, g2.base hi_.2.2.2.1 HG.out, hi_.2.2.2.2.trans g2⟩) l1 W h0)
    rw [mayAny_run] at HAY
    obtain ⟨q, hq⟩ : ∃ q, mayAny x.f4 (wrap64 (deep - 1)) l1 = q := ⟨_, rfl⟩
    rw [hq] at HAY HV1
    obtain ⟨qb, ql⟩ := q
    dsimp only at HAY HV1
    subst HV1
    clear hq HIH
    go_wp2_with (first
      | (go_at_call 113; refine (scope_fields.calls (0 + 3) x.f0 x.f1 x.f2 x.f3 A c x.f4 true _ (Kd.C_below HR.out HB2.out) HC.out HFV.out).mono ?_; rintro e w' ⟨rfl, hb⟩; have HL3 := Aside0.mk (HL2.out.below hb); have HK3 := Aside0.mk (HK2.out.trans (Kp.of_below hb (Nat.le_of_lt HL2.out.lt))); have HB3 := Aside0.mk (below_step HB2.out hb); have e0 := HA1.out.below hb; have e4 := e0.cell 4; have e2 := HA2.out.below hb; have HE0 := Aside0.mk (HA0.out.below hb); have HE2 := Aside0.mk e2; simp only [List.getElem?_toArray, List.getElem?_cons_zero, List.getElem?_cons_succ] at e4; clear e0 e2 hb)
      | (go_at_call 72; refine (HAY.out _ ⟨HL3.out, HE0.out, HE2.out, HB3.out, HK3.out⟩).mono ?_; rintro e w' ⟨rfl, g1, _, _, _, g5⟩; have HL4 := Aside0.mk g1; have HK4 := Aside0.mk g5; clear g1 g5))
    go_ret
    exact ⟨rfl, HL4.out, HK4.out⟩
end Go.Proofs.Ytgdpabedlghiaaa.Scope
/- scope.Match and scope.Check, in the printed functions' form. -/
namespace Go.Proofs.Ytgdpabedlghiaaa.Scope
set_option linter.unusedVariables false
set_option linter.unusedSimpArgs false
open Go.RowKit Go.Proofs.YtgdpabedlghiaaaW.PrintWords Go.Proofs.YtgdpabedlghiaaaW.PrintLast Go.Proofs.YtgdpabedlghiaaaW.PrintMore Go.Proofs.Ytgdpabedlghiaaa.PZ
/-- May a scope be? -/
def mayB (x : S40) : Bool := (mayS x 8 24).1
set_option maxHeartbeats 2000000 in
set_option maxRecDepth 100000 in
theorem check_c (x : S40) (A : Option Addr) (c : Nat) (w : World) (hr : Kd.C k40 w A x.f4.length x.f4) (hc : x.f4.length ≤ c) :
    Calls Try.prog 28 #[.agg #[.int .i64 x.f0, .string x.f1, .int .i64 x.f2, .int .i64 x.f3, .slice A x.f4.length c]] w fun e w' => e = .returned (.int .i64 (if mayB x = true then 0 else 1)) ∧ Below w.heap.size w w' := by
  have HL := Aside0.mk (show Blk ((w.alloc (.cells #[.int .i64 x.f0, .string x.f1, .int .i64 x.f2, .int .i64 x.f3, .slice A x.f4.length c] 40)).alloc (.cells #[.int .i64 24] 94)) (w.heap.size + 1) 94 #[.int .i64 24] from blk2 _ _ _)
  have HB := Aside0.mk (show Below w.heap.size w ((w.alloc (.cells #[.int .i64 x.f0, .string x.f1, .int .i64 x.f2, .int .i64 x.f3, .slice A x.f4.length c] 40)).alloc (.cells #[.int .i64 24] 94)) from below_alloc (below_alloc (Below.refl _ _) _) _)
  have HM := Aside0.mk (may_n (SizeOf.sizeOf x + 1) x (Nat.lt_succ_self _) (w.heap.size + 1) 8 24 A c w _ hr hc (Nat.le_succ _) HB.out HL.out)
  have hu40 := Try.underlying40
  have hu94 := Try.underlying94
  unfold mayB
  obtain ⟨r, hr_⟩ : ∃ r, mayS x 8 24 = r := ⟨_, rfl⟩
  rw [hr_] at HM ⊢
  clear hr hc hr_ HL
  obtain ⟨b, l⟩ := r
  dsimp only at HM ⊢
  cases b
  all_goals
    go_enter Try.func28, Try.ntmps28
    go_wp2_with (go_at_call 70; refine HM.out.mono ?_; rintro e w' ⟨rfl, _, hk⟩; have HF := Aside0.mk (hk.base HB.out (Nat.le_succ _)); clear hk)
    go_ret
    exact ⟨rfl, HF.out⟩
end Go.Proofs.Ytgdpabedlghiaaa.Scope
namespace Go.Proofs.Ytgdpabedlghiaaa.PZ
set_option linter.unusedVariables false
open Go.RowKit Go.Proofs.YtgdpabedlghiaaaW.PrintWords
def scope_Check.f (a0_0 : Int) (a0_1 : ByteArray) (a0_2 : Int) (a0_3 : Int) (l0_4 : List S40) : Option Int := some (if Scope.mayB ⟨a0_0, a0_1, a0_2, a0_3, l0_4⟩ = true then 0 else 1)
theorem scope_Check.calls (a0_0 : Int) (a0_1 : ByteArray) (a0_2 : Int) (a0_3 : Int) (A0_4 : Option Addr) (c0_4 : Nat) (l0_4 : List S40) (r : Int) (w : World) (hr0_4 : Kd.C k40 w A0_4 l0_4.length l0_4) (hc0_4 : l0_4.length ≤ c0_4) (h : scope_Check.f a0_0 a0_1 a0_2 a0_3 l0_4 = some r) :
    Calls Try.prog 28 #[.agg #[.int .i64 a0_0, .string a0_1, .int .i64 a0_2, .int .i64 a0_3, .slice A0_4 l0_4.length c0_4]] w fun e w' => e = .returned (.int .i64 r) ∧ Below w.heap.size w w' := by
  obtain rfl := Option.some.inj h
  exact Scope.check_c ⟨a0_0, a0_1, a0_2, a0_3, l0_4⟩ A0_4 c0_4 w hr0_4 hc0_4
def scope_Match.f (a0_0 : Int) (a0_1 : ByteArray) (a0_2 : Int) (a0_3 : Int) (l0_4 : List S40) (a1_0 a1_1 a1_2 a1_3 : ByteArray) (a1_4 a1_5 : Int) : Option Bool := some (Scope.matchB a1_1 a1_2 a1_3 a1_4 ⟨a0_0, a0_1, a0_2, a0_3, l0_4⟩)
theorem scope_Match.calls (a0_0 : Int) (a0_1 : ByteArray) (a0_2 : Int) (a0_3 : Int) (A0_4 : Option Addr) (c0_4 : Nat) (l0_4 : List S40) (a1_0 : ByteArray) (a1_1 : ByteArray) (a1_2 : ByteArray) (a1_3 : ByteArray) (a1_4 : Int) (a1_5 : Int) (r : Bool) (w : World) (hr0_4 : Kd.C k40 w A0_4 l0_4.length l0_4) (hc0_4 : l0_4.length ≤ c0_4) (h : scope_Match.f a0_0 a0_1 a0_2 a0_3 l0_4 a1_0 a1_1 a1_2 a1_3 a1_4 a1_5 = some r) :
    Calls Try.prog 29 #[.agg #[.int .i64 a0_0, .string a0_1, .int .i64 a0_2, .int .i64 a0_3, .slice A0_4 l0_4.length c0_4], .agg #[.string a1_0, .string a1_1, .string a1_2, .string a1_3, .int .i64 a1_4, .int .i64 a1_5]] w fun e w' => e = .returned (.bool r) ∧ Below w.heap.size w w' := by
  obtain rfl := Option.some.inj h
  exact Scope.match_n a1_0 a1_1 a1_2 a1_3 a1_4 a1_5 _ ⟨a0_0, a0_1, a0_2, a0_3, l0_4⟩ (Nat.lt_succ_self _) A0_4 c0_4 w hr0_4 hc0_4
end Go.Proofs.Ytgdpabedlghiaaa.PZ
/- What a reader of bytes answers, in plain words: its state is the bytes that are left, or that it failed. -/
namespace Go.Proofs.Ytgdpabedlghiaaa.TlvPlain
open Go.Proofs.Ytgdpabedlghiaaa.Base Go.RowKit Go.Proofs.YtgdpabedlghiaaaW.PrintWords

def U8 (b : List Int) : Prop := ∀ x ∈ b, 0 ≤ x ∧ x ≤ 255
theorem U8.take {b : List Int} (h : U8 b) (n : Nat) : U8 (b.take n) := fun x hx => h x (List.mem_of_mem_take hx)
theorem U8.drop {b : List Int} (h : U8 b) (n : Nat) : U8 (b.drop n) := fun x hx => h x (List.mem_of_mem_drop hx)
theorem U8.nil : U8 [] := fun _ h => by cases h
theorem U8.append {a b : List Int} (h : U8 a) (k : U8 b) : U8 (a ++ b) := fun x hx => (List.mem_append.1 hx).elim (h x) (k x)
theorem U8.cons {x : Int} {b : List Int} (h : 0 ≤ x ∧ x ≤ 255) (k : U8 b) : U8 (x :: b) := fun y hy => (List.mem_cons.1 hy).elim (fun e => e ▸ h) (k y)
theorem U8.head {x : Int} {b : List Int} (h : U8 (x :: b)) : 0 ≤ x ∧ x ≤ 255 := h x (List.mem_cons_self ..)
theorem U8.tail {x : Int} {b : List Int} (h : U8 (x :: b)) : U8 b := fun y hy => h y (List.mem_cons_of_mem _ hy)

def takeO (st : Option (List Int)) (n : Int) : List Int × Option (List Int) :=
  match st with
  | some bs => if 0 ≤ n ∧ n ≤ bs.length then (bs.take n.toNat, some (bs.drop n.toNat)) else ([], none)
  | none => ([], none)
/-- The number of bytes, the highest first. -/
def valueB (l : List Int) : Int := l.foldl (fun n c => n * 256 + c) 0
def numO (st : Option (List Int)) : Int × Option (List Int) :=
  match st with
  | some (x :: r) =>
    if x > 8 then (0, none) else
    if (r.length : Int) < x then (0, none) else
    if 0 < x ∧ r.getD 0 0 = 0 then (0, none) else (valueB (r.take x.toNat), some (r.drop x.toNat))
  | _ => (0, none)
def countO (st : Option (List Int)) (most : Int) : Int × Option (List Int) :=
  if most < 0 ∨ (numO st).1 > most then (0, none) else numO st
def textO (st : Option (List Int)) (most : Int) : List Int × Option (List Int) := takeO (countO st most).2 (countO st most).1
def leftO (st : Option (List Int)) : Int := match st with | some bs => bs.length | none => 0

theorem valueB_snoc (l : List Int) (c : Int) : valueB (l ++ [c]) = valueB l * 256 + c := by simp [valueB]
theorem valueB_range {l : List Int} (h : U8 l) : 0 ≤ valueB l ∧ valueB l < 256 ^ l.length := by
  have H : ∀ n (l : List Int), l.length = n → U8 l → 0 ≤ valueB l ∧ valueB l < 256 ^ l.length := by
    intro n
    induction n with
    | zero =>
      intro l hl _
      have : l = [] := List.length_eq_zero_iff.1 hl
      subst this
      simp [valueB]
    | succ n ih =>
      intro l hl hu
      have hne : l ≠ [] := by intro e; rw [e] at hl; cases hl
      rw [← List.dropLast_concat_getLast hne, valueB_snoc]
      have h1 := ih l.dropLast (by simp [hl]) (fun x hx => hu x ((List.dropLast_sublist l).subset hx))
      have h2 := hu (l.getLast hne) (List.getLast_mem hne)
      rw [List.length_append, List.length_singleton, Int.pow_succ]
      omega
  exact H _ l rfl h
theorem valueB_u64 {l : List Int} (h : U8 l) (hl : l.length ≤ 8) : 0 ≤ valueB l ∧ valueB l ≤ 18446744073709551615 := by
  have := valueB_range h
  have key : ∀ n : Nat, n ≤ 8 → (256 : Int) ^ n ≤ 18446744073709551616 := by
    intro n hn
    have : n = 0 ∨ n = 1 ∨ n = 2 ∨ n = 3 ∨ n = 4 ∨ n = 5 ∨ n = 6 ∨ n = 7 ∨ n = 8 := by omega
    rcases this with rfl | rfl | rfl | rfl | rfl | rfl | rfl | rfl | rfl <;> decide +kernel
  have := key _ hl
  omega
/-- One byte more at the end: in words of 64 bits. -/
theorem or_byte (n c : Int) (hn0 : 0 ≤ n) (hn : n * 256 + 255 ≤ 18446744073709551615) (hc0 : 0 ≤ c) (hc : c ≤ 255) : Go.bits .or .u64 (n * 256) c = n * 256 + c := by
  obtain ⟨a, rfl⟩ := Int.eq_ofNat_of_zero_le hn0
  obtain ⟨b, rfl⟩ := Int.eq_ofNat_of_zero_le hc0
  have e1 : BitVec.ofInt IntKind.u64.bits ((a : Int) * 256) = BitVec.ofNat 64 (a * 256) := by
    rw [show ((a : Int) * 256) = ((a * 256 : Nat) : Int) from by omega]; rfl
  have e2 : BitVec.ofInt IntKind.u64.bits (b : Int) = BitVec.ofNat 64 b := rfl
  have e3 : (BitVec.ofNat 64 (a * 256) ||| BitVec.ofNat 64 b).toNat = a * 256 + b := by
    rw [BitVec.toNat_or, BitVec.toNat_ofNat, BitVec.toNat_ofNat, Nat.mod_eq_of_lt (by omega), Nat.mod_eq_of_lt (by omega)]
    have := Nat.shiftLeft_add_eq_or_of_lt (i := 8) (b := b) (show b < 2 ^ 8 by omega) a
    rw [Nat.shiftLeft_eq] at this
    exact this.symm
  unfold Go.bits
  simp only [e1, e2]
  show IntKind.u64.wrap (((BitVec.ofNat 64 (a * 256) ||| BitVec.ofNat 64 b : BitVec 64).toNat : Nat) : Int) = _
  rw [e3]
  exact IntWalk.u64_in _ (by omega)
theorem numO_range {st : Option (List Int)} (hu : ∀ bs, st = some bs → U8 bs) : 0 ≤ (numO st).1 ∧ (numO st).1 ≤ 18446744073709551615 := by
  unfold numO
  split
  · next x r =>
    split
    · simp
    · split
      · simp
      · split
        · simp
        · exact valueB_u64 ((hu _ rfl).tail.take _) (by rw [List.length_take]; omega)
  · simp
theorem numO_u8 {st : Option (List Int)} (hu : ∀ bs, st = some bs → U8 bs) : ∀ bs, (numO st).2 = some bs → U8 bs := by
  intro bs
  unfold numO
  split
  · next x r =>
    split
    · simp
    · split
      · simp
      · split
        · simp
        · intro h
          injection h with h
          subst h
          exact (hu _ rfl).tail.drop _
  · simp
theorem takeO_u8 {st : Option (List Int)} (hu : ∀ bs, st = some bs → U8 bs) (n : Int) : U8 (takeO st n).1 ∧ ∀ bs, (takeO st n).2 = some bs → U8 bs := by
  unfold takeO
  split
  · next bs =>
    split
    · refine ⟨(hu _ rfl).take _, fun b h => ?_⟩
      injection h with h
      subst h
      exact (hu _ rfl).drop _
    · exact ⟨U8.nil, by simp⟩
  · exact ⟨U8.nil, by simp⟩
theorem countO_u8 {st : Option (List Int)} (hu : ∀ bs, st = some bs → U8 bs) (m : Int) : ∀ bs, (countO st m).2 = some bs → U8 bs := by
  intro bs
  unfold countO
  split
  · simp
  · exact numO_u8 hu bs
end Go.Proofs.Ytgdpabedlghiaaa.TlvPlain
-- printed for this claim by a program (pall.sh)
namespace Go.Proofs.Ytgdpabedlghiaaa.PZ
open Go.RowKit Go.Proofs.YtgdpabedlghiaaaW.PrintWords Go.Proofs.YtgdpabedlghiaaaW.PrintLast Go.Proofs.YtgdpabedlghiaaaW.PrintMore
attribute [local go_sem] max2_int min2_int max_two min_two max_three min_three max_four min_four   -- for this text's walks alone
set_option linter.unusedVariables false
set_option linter.unusedSimpArgs false

/-! ### tlv_Num: function 104 -/
mutual
def tlv_Num.l0 : Nat → Int → Int → Int → Option (List Int)
  | 0, _, _, _ => none
  | k + 1, x0, x3, x4 => if x4 > 0 then (tlv_Num.l0 k x0 (wrap64 (x3 + 1)) (x4 / 256)) else (if 0 ≤ (wrap64 (1 + x3)) then (if (wrap64 (1 + x3) : Int).toNat ≤ 281474976710656 then ((some (List.replicate (wrap64 (1 + x3) : Int).toNat 0 : List Int)).bind fun y121 => (if 0 < (y121.length : Int) then (tlv_Num.l1 k x0 (y121.set (0 : Int).toNat ((x3) % 256)) x3) else (none))) else (none)) else (none))
def tlv_Num.l1 : Nat → Int → List Int → Int → Option (List Int)
  | 0, _, _, _ => none
  | k + 1, x0, x5, x6 => if x6 > 0 then (if 0 ≤ x6 then (if x6 < (x5.length : Int) then (tlv_Num.l1 k (x0 / 256) (x5.set (x6 : Int).toNat ((x0) % 256)) (wrap64 (x6 - 1))) else (none)) else (none)) else (some x5)
end
def tlv_Num.f (k : Nat) (a0 : Int) : Option (List Int) := tlv_Num.l0 k a0 0 a0
theorem tlv_Num.mono_l : ∀ k, (∀ y0 y1 y2, LeO (tlv_Num.l0 k y0 y1 y2) (tlv_Num.l0 (k + 1) y0 y1 y2)) ∧ (∀ y0 y1 y2, LeO (tlv_Num.l1 k y0 y1 y2) (tlv_Num.l1 (k + 1) y0 y1 y2))
  | 0 => ⟨fun _ _ _ r h => by simp [tlv_Num.l0] at h, fun _ _ _ r h => by simp [tlv_Num.l1] at h⟩
  | k + 1 => by
    obtain ⟨ih0, ih1⟩ := tlv_Num.mono_l k
    refine ⟨?_, ?_⟩
    · intro y0 y1 y2
      unfold tlv_Num.l0
      repeat' first
      | (with_reducible exact ih0 _ _ _)
      | (with_reducible exact ih1 _ _ _)
      | (with_reducible exact LeO.refl _)
      | (with_reducible exact LeO.none _)
      | (with_reducible refine LeO.ite ?_ ?_)
      | (with_reducible refine LeO.bind ?_ (fun _ => ?_))
      | exact ih0 _ _ _
      | exact ih1 _ _ _
      | exact LeO.none _
      | refine LeO.ite ?_ ?_
      | refine LeO.bind ?_ (fun _ => ?_)
    · intro y0 y1 y2
      unfold tlv_Num.l1
      repeat' first
      | (with_reducible exact ih0 _ _ _)
      | (with_reducible exact ih1 _ _ _)
      | (with_reducible exact LeO.refl _)
      | (with_reducible exact LeO.none _)
      | (with_reducible refine LeO.ite ?_ ?_)
      | (with_reducible refine LeO.bind ?_ (fun _ => ?_))
      | exact ih0 _ _ _
      | exact ih1 _ _ _
      | exact LeO.none _
      | refine LeO.ite ?_ ?_
      | refine LeO.bind ?_ (fun _ => ?_)
theorem tlv_Num.mono : ∀ a0 k, LeO (tlv_Num.f k a0) (tlv_Num.f (k + 1) a0) := by
  intro a0 k
  obtain ⟨ih0, ih1⟩ := tlv_Num.mono_l k
  unfold tlv_Num.f
  repeat' first
      | (with_reducible exact ih0 _ _ _)
      | (with_reducible exact ih1 _ _ _)
      | (with_reducible exact LeO.refl _)
      | (with_reducible exact LeO.none _)
      | (with_reducible refine LeO.ite ?_ ?_)
      | (with_reducible refine LeO.bind ?_ (fun _ => ?_))
      | exact ih0 _ _ _
      | exact ih1 _ _ _
      | exact LeO.none _
      | refine LeO.ite ?_ ?_
      | refine LeO.bind ?_ (fun _ => ?_)
set_option maxHeartbeats 8000000 in
set_option maxRecDepth 100000 in
theorem tlv_Num.calls (k : Nat) (a0 : Int) (r : List Int) (w : World) (h : tlv_Num.f k a0 = some r) :
    Calls Try.prog 104 #[.int .u64 a0] w fun e w' => ∃ v0_ : Value, e = .returned (v0_) ∧ Kd.R (Kd.int .u8) 5 w' w.heap.size (fun _ => True) v0_ r ∧ Below w.heap.size w w' := by
  have HB := Aside0.mk (Below.refl w.heap.size w)
  have H : (tlv_Num.l0 k a0 0 a0) = some r := h
  clear h
  have H' := Aside0.mk H
  clear H
  go_enter Try.func104, Try.ntmps104
  go_wp2
  go_loopg [3, 4] k (fun kq v3 v4 w' => ∃ (x3_1 : Int) (x4_1 : Int), v3 = .int .i64 x3_1 ∧ v4 = .int .u64 x4_1 ∧ Aside0 (tlv_Num.l0 kq a0 x3_1 x4_1 = some r) ∧ Aside0 (kq ≤ k) ∧ Aside0 (Below w.heap.size w w'))
  case atStart => exact ⟨(0), (a0), (by first | rfl | (simp; done) | (simp [*]; done)), (by first | rfl | (simp; done) | (simp [*]; done)), H', ⟨Nat.le_refl _⟩, ⟨by repeat (first | (with_reducible first | exact HB.out | apply below_alloc | apply pw_below_drewN | apply below_drew1) | exact HB.out)⟩⟩
  case round =>
    clear H'
    try clear c1
    obtain ⟨x3_1, x4_1, rfl, rfl, HA, HK1, HB⟩ := hrel
    cases gk with
    | zero => exact absurd HA.out (by simp [tlv_Num.l0])
    | succ k1 =>
      have H := HA.out
      clear HA
      simp only [tlv_Num.l0] at H
      by_cases c2 : x4_1 > 0
      · rw [if_pos c2] at H
        have c2b0 : decide (0 < x4_1) = true := decide_eq_true c2
        clear c2
        have H' := Aside0.mk H
        clear H
        go_wp2
        go_roundg k1
        case measure => have := HK1.out; omega
        case rel => exact ⟨(wrap64 (x3_1 + 1)), (x4_1 / 256), (by first | rfl | (simp; done) | (simp [*]; done)), (by first | rfl | (simp; done) | (simp [*]; done)), H', ⟨by have := HK1.out; omega⟩, ⟨by repeat (first | (with_reducible first | exact HB.out | apply below_alloc | apply pw_below_drewN | apply below_drew1) | exact HB.out)⟩⟩
      · rw [if_neg c2] at H
        have c2b0 : decide (0 < x4_1) = false := decide_eq_false c2
        clear c2
        obtain ⟨ji3, hji3⟩ : ∃ j_ : Int, (wrap64 (1 + x3_1)) = j_ := ⟨_, rfl⟩
        replace H : (if 0 ≤ (ji3) then (if (ji3 : Int).toNat ≤ 281474976710656 then ((some (List.replicate (ji3 : Int).toNat 0 : List Int)).bind fun y121 => (if 0 < (y121.length : Int) then (tlv_Num.l1 k1 a0 (y121.set (0 : Int).toNat ((x3_1) % 256)) x3_1) else (none))) else (none)) else (none)) = some r := by first | (rw [hji3] at H; exact H) | (simp only [hji3] at H ⊢; exact H)
        have hji3w : (IntKind.i64.wrap (1 + x3_1)) = ji3 := (i64_w _).trans hji3
        by_cases c4 : 0 ≤ (ji3)
        · rw [if_pos c4] at H
          have c4b0 := eq_true c4
          have c4b1 : decide (0 ≤ (ji3)) = true := decide_eq_true c4
          clear c4
          by_cases c5 : (ji3 : Int).toNat ≤ 281474976710656
          · rw [if_pos c5] at H
            have c5b0 := eq_true c5
            have c5b1 : decide ((ji3 : Int).toNat ≤ 281474976710656) = true := decide_eq_true c5
            clear c5
            obtain ⟨y121, hy121⟩ : ∃ y_ : List Int, y_ = (List.replicate (ji3 : Int).toNat 0) := ⟨_, rfl⟩
            replace H : (if 0 < (y121.length : Int) then (tlv_Num.l1 k1 a0 (y121.set (0 : Int).toNat ((x3_1) % 256)) x3_1) else (none)) = some r := by first | (rw [hy121]; with_reducible exact H) | (have H2_ := (Option.bind_some _ _).symm.trans H; rw [hy121]; with_reducible exact H2_) | (have H2_ := (Option.bind_some _ _).symm.trans H; with_reducible exact H2_) | with_reducible exact H | (rw [hy121]; exact H) | exact H
            have Ny121 := Aside0.mk hy121
            clear hy121
            by_cases c6 : 0 < (y121.length : Int)
            · rw [if_pos c6] at H
              have c6b0 : decide (0 < (y121.length : Int)) = true := decide_eq_true c6
              have c6b1 : decide (0 < y121.length) = true := decide_eq_true (by omega)
              clear c6
              obtain ⟨y124, hy124⟩ : ∃ y_ : List Int, y_ = (y121.set (0 : Int).toNat ((x3_1) % 256)) := ⟨_, rfl⟩
              replace H : (tlv_Num.l1 k1 a0 y124 x3_1) = some r := by first | (rw [hy124]; with_reducible exact H) | (have H2_ := (Option.bind_some _ _).symm.trans H; rw [hy124]; with_reducible exact H2_) | (have H2_ := (Option.bind_some _ _).symm.trans H; with_reducible exact H2_) | with_reducible exact H | (rw [hy124]; exact H) | exact H
              have Ny124 := Aside0.mk hy124
              clear hy124
              have H' := Aside0.mk H
              clear H
              go_wp2_with (first | ((with_reducible refine gate_dst (N := 16) rfl ?_); refine Kd.R_make (Kd.int .u8) _ 5 rfl (N := 16) rfl 27 _ _ rfl ji3 rfl rfl Try.underlying27 (.int .u8 0) 1 info5 rfl (by decide) (by omega) 0 (ok := fun _ => True) (okp := fun _ => True) rfl (fun _ hk => hk) trivial (of_decide_eq_true (by first | (with_reducible assumption) | assumption)) (Nat.le_trans (Nat.mul_le_mul_right _ (of_decide_eq_true (by first | (with_reducible assumption) | assumption) : ji3.toNat ≤ 281474976710656)) (by omega)) (Below.refl _ _) (Nat.le_refl _) ?_; intro v122 w8 ho9 hb hg_ hnew_; clear hg_ hnew_; (first | rw [← Ny121.out] at ho9 | (simp only [Int.reduceToNat] at ho9; rw [← Ny121.out] at ho9)); have n0_ := Aside0.mk (Kd.R_lower ho9 (below_size (by repeat (first | (with_reducible first | exact HB.out | apply below_alloc | apply pw_below_drewN | apply below_drew1) | exact HB.out)))); have n1_ := Aside0.mk (below_step (by repeat (first | (with_reducible first | exact HB.out | apply below_alloc | apply pw_below_drewN | apply below_drew1) | exact HB.out)) hb); clear HB; have HO123 := n0_; have HB := n1_; clear n0_ n1_; clear hb ho9; have p7 : 0 ≤ (0 : Int) := (by omega); have q7 : (0 : Int) < ((y121.length : Int) : Int) := of_decide_eq_true (by first | (with_reducible assumption) | assumption); have qi7 : (0 < y121.length) = True := eq_true (by omega); obtain ⟨go7, co7, eo7, gb7, gl7, cl7, HG7⟩ := Kd.R_form HO123.out (by omega); (first | cases eo7 | (injection eo7 with ea_ en_ ec_; (first | subst ea_ | (injection ea_ with ea_; subst ea_)); subst ec_; clear en_)); have GB7 := Aside0.mk gb7; have GG7 := Aside0.mk HG7; clear gb7 gl7 HG7; obtain ⟨hx7_0, hf7_0⟩ := Kd.R_celln 0 HO123.out (0 : Int) p7 q7; (try rw [show ((0 : Int)).toNat = 0 from rfl] at hx7_0); (try simp only [Nat.reduceMul, Nat.zero_mul, Nat.zero_add, Nat.reduceAdd] at hx7_0); (try rw [show ((0 : Int)).toNat = 0 from rfl] at hf7_0); (try simp only [Nat.reduceMul, Nat.zero_mul, Nat.zero_add, Nat.reduceAdd] at hf7_0); replace p7 := eq_true p7; replace q7 := eq_true q7; obtain ⟨hy10_, hz10_⟩ := Kd.R_celln 0 HO123.out (0 : Int) (by omega) (of_decide_eq_true (by first | (with_reducible assumption) | assumption)); (try simp only [Int.reduceToNat, Int.toNat_zero, Int.toNat_ofNat, Nat.reduceMul, Nat.zero_mul, Nat.zero_add] at hy10_ hz10_); (try rw [show ((0 : Int)).toNat = 0 from rfl] at hy10_); (try rw [show ((0 : Int)).toNat = 0 from rfl] at hz10_); have HP10 := Kd.R_putg HO123.out (0 : Int) ((x3_1) % 256)) | ((with_reducible refine gate_store (t := 5) (p := 20) rfl ?_); refine store_event (t := 5) (p := 20) (v := ?vo_w11) (w1 := (w8.setCell ⟨go7, (0 : Int).toNat, none⟩ (.int .u8 ((x3_1) % 256)))) ?hg ?ho ?hn ?hr ?_; (case ho => rfl); (case hg => rfl); (case hn => rfl); (case hr => first | (go_simp; done) | (go_simp; rfl)); intro w11 hw; have hg : w8.grownBy w11 (some go7) := (by rw [hw]; exact HP10.2); have hp_ : Kd.R (Kd.int .u8) 5 w11 w.heap.size (fun _ => True) (.slice (some ⟨go7, 0, none⟩) y121.length co7) y124 := (by rw [hw, Ny124.out]; exact HP10.1); clear HP10; have n0_ := Aside0.mk (hp_); have n1_ := Aside0.mk ((by rw [hw]; exact below_set (HB.out) GB7.out : Below w.heap.size w w11)); clear HO123; clear HB; have HO123 := n0_; have HB := n1_; clear n0_ n1_; clear hg hw hp_))
              go_loopg [0, 6] k1 (fun kq v0 v6 w' => ∃ (x0_2 : Int) (x5_2 : List Int) (x6_2 : Int), v0 = .int .u64 x0_2 ∧ v6 = .int .i64 x6_2 ∧ Aside0 (tlv_Num.l1 kq x0_2 x5_2 x6_2 = some r) ∧ Aside0 (kq ≤ k1) ∧ Aside0 (Kd.R (Kd.int .u8) 5 w' w.heap.size (fun _ => True) (.slice (some ⟨go7, 0, none⟩) y121.length co7) x5_2) ∧ Aside0 (Below w.heap.size w w'))
              case atStart => exact ⟨(a0), (y124), (x3_1), (by first | rfl | (simp; done) | (simp [*]; done)), (by first | rfl | (simp; done) | (simp [*]; done)), H', ⟨Nat.le_refl _⟩, ⟨by (with_reducible repeat (first | apply Kd.R_alloc | apply Kd.R_drewN | apply Kd.R_drew)); exact HO123.out⟩, ⟨by repeat (first | (with_reducible first | exact HB.out | apply below_alloc | apply pw_below_drewN | apply below_drew1) | exact HB.out)⟩⟩
              case round =>
                clear H'
                try clear c1
                try clear c2
                try clear c2b0
                try clear p2
                try clear c4
                try clear c4b0
                try clear c4b1
                try clear c5
                try clear c5b0
                try clear c5b1
                try clear c6
                try clear c6b0
                try clear c6b1
                try clear p6
                try clear p7
                try clear q7
                try clear hx7
                try clear qi7
                try clear hf7
                try clear c10
                try clear hx7_0
                try clear p7
                try clear q7
                obtain ⟨x0_2, x5_2, x6_2, rfl, rfl, HA, HK2, HO_5, HB⟩ := hrel
                have hl5_2 := (Kd.R_reads' HO_5.out).1
                rw [hl5_2] at HO_5
                (try simp only [hl5_2])
                cases gk with
                | zero => exact absurd HA.out (by simp [tlv_Num.l1])
                | succ k2 =>
                  have H := HA.out
                  clear HA
                  simp only [tlv_Num.l1] at H
                  by_cases c12 : x6_2 > 0
                  · rw [if_pos c12] at H
                    have c12b0 : decide (0 < x6_2) = true := decide_eq_true c12
                    clear c12
                    by_cases c13 : 0 ≤ x6_2
                    · rw [if_pos c13] at H
                      have c13b0 : decide (0 ≤ x6_2) = true := decide_eq_true c13
                      clear c13
                      by_cases c14 : x6_2 < (x5_2.length : Int)
                      · rw [if_pos c14] at H
                        have c14b0 : decide (x6_2 < (x5_2.length : Int)) = true := decide_eq_true c14
                        clear c14
                        obtain ⟨y125, hy125⟩ : ∃ y_ : List Int, y_ = (x5_2.set (x6_2 : Int).toNat ((x0_2) % 256)) := ⟨_, rfl⟩
                        replace H : (tlv_Num.l1 k2 (x0_2 / 256) y125 (wrap64 (x6_2 - 1))) = some r := by first | (rw [hy125]; with_reducible exact H) | (have H2_ := (Option.bind_some _ _).symm.trans H; rw [hy125]; with_reducible exact H2_) | (have H2_ := (Option.bind_some _ _).symm.trans H; with_reducible exact H2_) | with_reducible exact H | (rw [hy125]; exact H) | exact H
                        have Ny125 := Aside0.mk hy125
                        clear hy125
                        have H' := Aside0.mk H
                        clear H
                        have p15 : 0 ≤ (x6_2 : Int) := of_decide_eq_true (by first | (with_reducible assumption) | assumption)
                        have q15 : (x6_2 : Int) < ((x5_2.length : Int) : Int) := of_decide_eq_true (by first | (with_reducible assumption) | assumption)
                        obtain ⟨hx15_0, hf15_0⟩ := Kd.R_celln 0 HO_5.out (x6_2 : Int) p15 q15
                        replace p15 := eq_true p15
                        replace q15 := eq_true q15
                        have HP16 := Kd.R_putg HO_5.out (x6_2 : Int) ((x0_2) % 256)
                        go_wp2_with (first | ((with_reducible refine gate_store (t := 5) (p := 30) rfl ?_); refine store_event (t := 5) (p := 30) (v := ?vo_w17) (w1 := (wr.setCell ⟨go7, (x6_2 : Int).toNat, none⟩ (.int .u8 ((x0_2) % 256)))) ?hg ?ho ?hn ?hr ?_; (case ho => rfl); (case hg => rfl); (case hn => rfl); (case hr => first | (go_simp; done) | (go_simp; rfl)); intro w17 hw; have hg : wr.grownBy w17 (some go7) := (by rw [hw]; exact HP16.2); have hp_ : Kd.R (Kd.int .u8) 5 w17 w.heap.size (fun _ => True) (.slice (some ⟨go7, 0, none⟩) x5_2.length co7) y125 := (by rw [hw, Ny125.out]; exact HP16.1); clear HP16; have n0_ := Aside0.mk (hp_); have n1_ := Aside0.mk ((by rw [hw]; exact below_set (HB.out) GB7.out : Below w.heap.size w w17)); clear HO_5; clear HB; have HO_5 := n0_; have HB := n1_; clear n0_ n1_; clear hg hw hp_))
                        (try simp only [← hl5_2])
                        go_roundg k2
                        case measure => have := HK1.out; have := HK2.out; omega
                        case rel => exact ⟨(x0_2 / 256), (y125), (wrap64 (x6_2 - 1)), (by first | rfl | (simp; done) | (simp [*]; done)), (by first | rfl | (simp; done) | (simp [*]; done)), H', ⟨by have := HK1.out; have := HK2.out; omega⟩, ⟨by (try simp only [hl5_2]); (with_reducible repeat (first | apply Kd.R_alloc | apply Kd.R_drewN | apply Kd.R_drew)); exact HO_5.out⟩, ⟨by repeat (first | (with_reducible first | exact HB.out | apply below_alloc | apply pw_below_drewN | apply below_drew1) | exact HB.out)⟩⟩
                      · rw [if_neg c14] at H
                        exact absurd H (by simp)
                    · rw [if_neg c13] at H
                      exact absurd H (by simp)
                  · rw [if_neg c12] at H
                    have c12b0 : decide (0 < x6_2) = false := decide_eq_false c12
                    clear c12
                    obtain rfl := Option.some.inj H
                    go_wp2
                    go_ret
                    exact ⟨_, by first | rfl | (simp [errW_none, errW_some] <;> rfl) | (simp only [← hji3]; first | rfl | (simp [errW_none, errW_some] <;> rfl)) | (simp [*, errW_none, errW_some] <;> rfl), by (with_reducible repeat (first | apply Kd.R_alloc | apply Kd.R_drewN | apply Kd.R_drew)); exact HO_5.out, by repeat (first | (with_reducible first | exact HB.out | apply below_alloc | apply pw_below_drewN | apply below_drew1) | exact HB.out)⟩
            · rw [if_neg c6] at H
              exact absurd H (by simp)
          · rw [if_neg c5] at H
            exact absurd H (by simp)
        · rw [if_neg c4] at H
          exact absurd H (by simp)

end Go.Proofs.Ytgdpabedlghiaaa.PZ
-- printed for this claim by a program (pall.sh)
namespace Go.Proofs.Ytgdpabedlghiaaa.PZ
open Go.RowKit Go.Proofs.YtgdpabedlghiaaaW.PrintWords Go.Proofs.YtgdpabedlghiaaaW.PrintLast Go.Proofs.YtgdpabedlghiaaaW.PrintMore
attribute [local go_sem] max2_int min2_int max_two min_two max_three min_three max_four min_four   -- for this text's walks alone
set_option linter.unusedVariables false
set_option linter.unusedSimpArgs false

/-! ### tlv_Text: function 56 -/
def tlv_Text.f (k : Nat) (l0 : List Int) : Option (List Int) := (tlv_Num.f k (IntKind.u64.wrap ((l0.length : Int)))).bind fun t126 => (if t126.length + l0.length < 140737488355328 then (some (t126 ++ l0)) else (none))
theorem tlv_Text.mono : ∀ a0 k, LeO (tlv_Text.f k a0) (tlv_Text.f (k + 1) a0) := by
  intro a0 k
  unfold tlv_Text.f
  repeat' first
      | (with_reducible exact tlv_Num.mono _ _)
      | (with_reducible exact LeO.refl _)
      | (with_reducible exact LeO.none _)
      | (with_reducible refine LeO.ite ?_ ?_)
      | (with_reducible refine LeO.bind ?_ (fun _ => ?_))
      | exact tlv_Num.mono _ _
      | exact LeO.none _
      | refine LeO.ite ?_ ?_
      | refine LeO.bind ?_ (fun _ => ?_)
set_option maxHeartbeats 8000000 in
set_option maxRecDepth 100000 in
theorem tlv_Text.calls (k : Nat) (A0 : Option Addr) (c0 : Nat) (l0 : List Int) (r : List Int) (w : World) (hr0 : Kd.C (Kd.int .u8) w A0 l0.length l0) (hc0 : l0.length ≤ c0) (h : tlv_Text.f k l0 = some r) :
    Calls Try.prog 56 #[.slice A0 l0.length c0] w fun e w' => ∃ v0_ : Value, e = .returned (v0_) ∧ Kd.R (Kd.int .u8) 5 w' w.heap.size (fun _ => True) v0_ r ∧ Below w.heap.size w w' := by
  have HR0 := Aside0.mk hr0
  have HC0 := Aside0.mk hc0
  clear hr0 hc0
  have HB := Aside0.mk (Below.refl w.heap.size w)
  have H : ((tlv_Num.f k (IntKind.u64.wrap ((l0.length : Int)))).bind fun t126 => (if t126.length + l0.length < 140737488355328 then (some (t126 ++ l0)) else (none))) = some r := h
  clear h
  replace H := Option.bind_eq_some_iff.mp H
  obtain ⟨t126, A20, H⟩ := H
  replace H : (if t126.length + l0.length < 140737488355328 then (some (t126 ++ l0)) else (none)) = some r := H
  have A2 := Aside0.mk A20
  clear A20
  by_cases c3 : t126.length + l0.length < 140737488355328
  · rw [if_pos c3] at H
    have LMc3 := Aside0.mk c3
    clear c3
    obtain ⟨y129, hy129⟩ : ∃ y_ : List Int, y_ = (t126 ++ l0) := ⟨_, rfl⟩
    replace H : (some y129) = some r := by first | (rw [hy129]; with_reducible exact H) | (have H2_ := (Option.bind_some _ _).symm.trans H; rw [hy129]; with_reducible exact H2_) | (have H2_ := (Option.bind_some _ _).symm.trans H; with_reducible exact H2_) | with_reducible exact H | (rw [hy129]; exact H) | exact H
    have Ny129 := Aside0.mk hy129
    clear hy129
    obtain rfl := Option.some.inj H
    go_enter Try.func56, Try.ntmps56
    go_wp2_with (first | ((with_reducible refine gate_callee (f := 104) rfl ?_); refine goesL_ (some 6) rfl rfl Try.func104 (by kernel_rfl) rfl #[.int .u64 (IntKind.u64.wrap ((l0.length : Int)))] rfl (by (try simp only [List.map_toArray, List.map_cons, List.map_nil]); first | done | rfl | (simp only [List.length_drop, List.length_take]; rfl)) ?_; (with_reducible refine (tlv_Num.calls k (IntKind.u64.wrap ((l0.length : Int))) t126 _ A2.out).mono ?_); rintro e w4 ⟨v127, rfl, ho0, hb⟩; refine ⟨_, rfl, ?_⟩; have n0_ := Aside0.mk (Kd.R_lower ho0 (below_size (by repeat (first | (with_reducible first | exact HB.out | apply below_alloc | apply pw_below_drewN | apply below_drew1) | exact HB.out)))); have n1_ := Aside0.mk (below_step (by repeat (first | (with_reducible first | exact HB.out | apply below_alloc | apply pw_below_drewN | apply below_drew1) | exact HB.out)) hb); clear HB; have HO128 := n0_; have HB := n1_; clear n0_ n1_; (try clear hb); (try clear hb2); (try clear hk); (try clear hi); (try clear ho0)) | ((with_reducible refine gate_builtin (b := .append) (xs := #[.tmp 6, .tmp 7]) rfl ?_); at_builtin; refine Kd.R_append_rows (Kd.int .u8) (w0 := w) w.heap.size rfl (.tmp 6) (.tmp 7) 27 5 (.int .u8 0) 1 rfl Try.underlying27 info5 rfl (by decide) (by omega) v127 t126 l0 _ _ _ (fun _ => True) (fun _ => False) rfl rfl ?aO ?aR (fun _ _ h => h) (fun _ h => h.elim) ?aF ?aB ?aS ?aL ?_; (case aR => repeat (first | exact (Kd.C_below HR0.out HB.out) | (with_reducible refine Kd.C_alloc ?_ _) | (with_reducible refine Kd.C_drewN ?_ _) | (with_reducible refine Kd.C_drew ?_))); (case aB => exact (by repeat (first | (with_reducible first | exact HB.out | apply below_alloc | apply pw_below_drewN | apply below_drew1) | exact HB.out))); (case aF => exact (fun _ _ => trivial)); (case aO => exact (by (with_reducible repeat (first | apply Kd.R_alloc | apply Kd.R_drewN | apply Kd.R_drew)); exact HO128.out)); (case aS => exact (below_size (by repeat (first | (with_reducible first | exact HB.out | apply below_alloc | apply pw_below_drewN | apply below_drew1) | exact HB.out)))); (case aL => have := LMc3.out; omega); intro v130 w5 ho hb hg hat; rw [← Ny129.out] at ho; have n0_ := Aside0.mk (hb); have n1_ := Aside0.mk (ho); clear HB; clear HO128; have HB := n0_; have HO131 := n1_; clear n0_ n1_; clear ho hb hg hat))
    go_ret
    exact ⟨_, by first | rfl | (simp [errW_none, errW_some] <;> rfl) | (simp [*, errW_none, errW_some] <;> rfl), by (with_reducible repeat (first | apply Kd.R_alloc | apply Kd.R_drewN | apply Kd.R_drew)); exact HO131.out, by repeat (first | (with_reducible first | exact HB.out | apply below_alloc | apply pw_below_drewN | apply below_drew1) | exact HB.out)⟩
  · rw [if_neg c3] at H
    exact absurd H (by simp)

end Go.Proofs.Ytgdpabedlghiaaa.PZ
-- printed for this claim by a program (pall.sh)
namespace Go.Proofs.Ytgdpabedlghiaaa.PZ
open Go.RowKit Go.Proofs.YtgdpabedlghiaaaW.PrintWords Go.Proofs.YtgdpabedlghiaaaW.PrintLast Go.Proofs.YtgdpabedlghiaaaW.PrintMore
attribute [local go_sem] max2_int min2_int max_two min_two max_three min_three max_four min_four   -- for this text's walks alone
set_option linter.unusedVariables false
set_option linter.unusedSimpArgs false

/-! ### tlv_Int: function 57 -/
def tlv_Int.f (k : Nat) (a0 : Int) : Option (List Int) := (tlv_Num.f k (IntKind.u64.wrap (a0))).bind fun t132 => (some t132)
theorem tlv_Int.mono : ∀ a0 k, LeO (tlv_Int.f k a0) (tlv_Int.f (k + 1) a0) := by
  intro a0 k
  unfold tlv_Int.f
  repeat' first
      | (with_reducible exact tlv_Num.mono _ _)
      | (with_reducible exact LeO.refl _)
      | (with_reducible exact LeO.none _)
      | (with_reducible refine LeO.ite ?_ ?_)
      | (with_reducible refine LeO.bind ?_ (fun _ => ?_))
      | exact tlv_Num.mono _ _
      | exact LeO.none _
      | refine LeO.ite ?_ ?_
      | refine LeO.bind ?_ (fun _ => ?_)
set_option maxHeartbeats 8000000 in
set_option maxRecDepth 100000 in
theorem tlv_Int.calls (k : Nat) (a0 : Int) (r : List Int) (w : World) (h : tlv_Int.f k a0 = some r) :
    Calls Try.prog 57 #[.int .i64 a0] w fun e w' => ∃ v0_ : Value, e = .returned (v0_) ∧ Kd.R (Kd.int .u8) 5 w' w.heap.size (fun _ => True) v0_ r ∧ Below w.heap.size w w' := by
  have HB := Aside0.mk (Below.refl w.heap.size w)
  have H : ((tlv_Num.f k (IntKind.u64.wrap (a0))).bind fun t132 => (some t132)) = some r := h
  clear h
  replace H := Option.bind_eq_some_iff.mp H
  obtain ⟨t132, A20, H⟩ := H
  replace H : (some t132) = some r := H
  have A2 := Aside0.mk A20
  clear A20
  obtain rfl := Option.some.inj H
  go_enter Try.func57, Try.ntmps57
  go_wp2_with (first | ((with_reducible refine gate_callee (f := 104) rfl ?_); refine goesL_ (some 5) rfl rfl Try.func104 (by kernel_rfl) rfl #[.int .u64 (IntKind.u64.wrap (a0))] rfl (by (try simp only [List.map_toArray, List.map_cons, List.map_nil]); first | done | rfl | (simp only [List.length_drop, List.length_take]; rfl)) ?_; (with_reducible refine (tlv_Num.calls k (IntKind.u64.wrap (a0)) t132 _ A2.out).mono ?_); rintro e w3 ⟨v133, rfl, ho0, hb⟩; refine ⟨_, rfl, ?_⟩; have n0_ := Aside0.mk (Kd.R_lower ho0 (below_size (by repeat (first | (with_reducible first | exact HB.out | apply below_alloc | apply pw_below_drewN | apply below_drew1) | exact HB.out)))); have n1_ := Aside0.mk (below_step (by repeat (first | (with_reducible first | exact HB.out | apply below_alloc | apply pw_below_drewN | apply below_drew1) | exact HB.out)) hb); clear HB; have HO134 := n0_; have HB := n1_; clear n0_ n1_; (try clear hb); (try clear hb2); (try clear hk); (try clear hi); (try clear ho0)))
  go_ret
  exact ⟨_, by first | rfl | (simp [errW_none, errW_some] <;> rfl) | (simp [*, errW_none, errW_some] <;> rfl), by (with_reducible repeat (first | apply Kd.R_alloc | apply Kd.R_drewN | apply Kd.R_drew)); exact HO134.out, by repeat (first | (with_reducible first | exact HB.out | apply below_alloc | apply pw_below_drewN | apply below_drew1) | exact HB.out)⟩

end Go.Proofs.Ytgdpabedlghiaaa.PZ
-- printed for this claim by a program (pall.sh)
namespace Go.Proofs.Ytgdpabedlghiaaa.PZ
open Go.RowKit Go.Proofs.YtgdpabedlghiaaaW.PrintWords Go.Proofs.YtgdpabedlghiaaaW.PrintLast Go.Proofs.YtgdpabedlghiaaaW.PrintMore
attribute [local go_sem] max2_int min2_int max_two min_two max_three min_three max_four min_four   -- for this text's walks alone
set_option linter.unusedVariables false
set_option linter.unusedSimpArgs false

/-! ### tlv_All: function 55 -/
def tlv_All.l0 : Nat → List Int → List (List Int) → Int → Int → Option (List Int)
  | 0, _, _, _, _ => none
  | k + 1, x3, x6, x7, x8 => if x8 < x7 then (if 0 ≤ x8 then (if x8 < (x6.length : Int) then (if x3.length + (rd_L2 x6 x8).length < 140737488355328 then (tlv_All.l0 k (x3 ++ (rd_L2 x6 x8)) x6 x7 (wrap64 (x8 + 1))) else (none)) else (none)) else (none)) else (some x3)
def tlv_All.f (k : Nat) (l0 : List (List Int)) : Option (List Int) := tlv_All.l0 k ([] : List Int) l0 (l0.length : Int) 0
theorem tlv_All.mono_l : ∀ k, (∀ y0 y1 y2 y3, LeO (tlv_All.l0 k y0 y1 y2 y3) (tlv_All.l0 (k + 1) y0 y1 y2 y3))
  | 0 => fun _ _ _ _ r h => by simp [tlv_All.l0] at h
  | k + 1 => by
    have ih0 := tlv_All.mono_l k
    · intro y0 y1 y2 y3
      unfold tlv_All.l0
      repeat' first
      | (with_reducible exact ih0 _ _ _ _)
      | (with_reducible exact LeO.refl _)
      | (with_reducible exact LeO.none _)
      | (with_reducible refine LeO.ite ?_ ?_)
      | (with_reducible refine LeO.bind ?_ (fun _ => ?_))
      | exact ih0 _ _ _ _
      | exact LeO.none _
      | refine LeO.ite ?_ ?_
      | refine LeO.bind ?_ (fun _ => ?_)
theorem tlv_All.mono : ∀ a0 k, LeO (tlv_All.f k a0) (tlv_All.f (k + 1) a0) := by
  intro a0 k
  have ih0 := tlv_All.mono_l k
  unfold tlv_All.f
  repeat' first
      | (with_reducible exact ih0 _ _ _ _)
      | (with_reducible exact LeO.refl _)
      | (with_reducible exact LeO.none _)
      | (with_reducible refine LeO.ite ?_ ?_)
      | (with_reducible refine LeO.bind ?_ (fun _ => ?_))
      | exact ih0 _ _ _ _
      | exact LeO.none _
      | refine LeO.ite ?_ ?_
      | refine LeO.bind ?_ (fun _ => ?_)
set_option maxHeartbeats 8000000 in
set_option maxRecDepth 100000 in
theorem tlv_All.calls (k : Nat) (A0 : Option Addr) (c0 : Nat) (l0 : List (List Int)) (r : List Int) (w : World) (hr0 : Kd.C (Kd.slice 5 (Kd.int .u8)) w A0 l0.length l0) (hc0 : l0.length ≤ c0) (h : tlv_All.f k l0 = some r) :
    Calls Try.prog 55 #[.slice A0 l0.length c0] w fun e w' => ∃ v0_ : Value, e = .returned (v0_) ∧ Kd.R (Kd.int .u8) 5 w' w.heap.size (fun _ => True) v0_ r ∧ Below w.heap.size w w' := by
  have HR0 := Aside0.mk hr0
  have HC0 := Aside0.mk hc0
  clear hr0 hc0
  have HB := Aside0.mk (Below.refl w.heap.size w)
  have H : (tlv_All.l0 k ([] : List Int) l0 (l0.length : Int) 0) = some r := h
  clear h
  have H' := Aside0.mk H
  clear H
  go_enter Try.func55, Try.ntmps55
  go_wp2
  go_loopg [3, 8] k (fun kq v3 v8 w' => ∃ (x3_1 : List Int) (x8_1 : Int), v8 = .int .i64 x8_1 ∧ Aside0 (tlv_All.l0 kq x3_1 l0 (l0.length : Int) x8_1 = some r) ∧ Aside0 (kq ≤ k) ∧ Aside0 (Kd.R (Kd.int .u8) 5 w' w.heap.size (fun _ => True) v3 x3_1) ∧ Aside0 (Below w.heap.size w w'))
  case atStart => exact ⟨(([] : List Int)), (0), (by first | rfl | (simp; done) | (simp [*]; done)), H', ⟨Nat.le_refl _⟩, ⟨by first | exact Kd.R_nil _ _ _ _ _ | exact Kd.N_nil _ _ _ _ _ | exact Kd.V_nil _ _ _ _ _ | exact Kd.Q_nil _ _ _ _ _ | exact Kd.S_nil _ _ _ _ _⟩, ⟨by repeat (first | (with_reducible first | exact HB.out | apply below_alloc | apply pw_below_drewN | apply below_drew1) | exact HB.out)⟩⟩
  case round =>
    clear H'
    obtain ⟨x3_1, x8_1, rfl, HA, HK1, HO_3, HB⟩ := hrel
    cases gk with
    | zero => exact absurd HA.out (by simp [tlv_All.l0])
    | succ k1 =>
      have H := HA.out
      clear HA
      simp only [tlv_All.l0] at H
      by_cases c2 : x8_1 < (l0.length : Int)
      · rw [if_pos c2] at H
        have c2b0 : decide (x8_1 < (l0.length : Int)) = true := decide_eq_true c2
        clear c2
        by_cases c3 : 0 ≤ x8_1
        · rw [if_pos c3] at H
          have c3b0 : decide (0 ≤ x8_1) = true := decide_eq_true c3
          clear c3
          by_cases c4 : x8_1 < (l0.length : Int)
          · rw [if_pos c4] at H
            have c4b0 : decide (x8_1 < (l0.length : Int)) = true := decide_eq_true c4
            clear c4
            by_cases c5 : x3_1.length + (rd_L2 l0 x8_1).length < 140737488355328
            · rw [if_pos c5] at H
              have LMc5 := Aside0.mk c5
              clear c5
              obtain ⟨y118, hy118⟩ : ∃ y_ : List Int, y_ = (x3_1 ++ (rd_L2 l0 x8_1)) := ⟨_, rfl⟩
              replace H : (tlv_All.l0 k1 y118 l0 (l0.length : Int) (wrap64 (x8_1 + 1))) = some r := by first | (rw [hy118]; with_reducible exact H) | (have H2_ := (Option.bind_some _ _).symm.trans H; rw [hy118]; with_reducible exact H2_) | (have H2_ := (Option.bind_some _ _).symm.trans H; with_reducible exact H2_) | with_reducible exact H | (rw [hy118]; exact H) | exact H
              have Ny118 := Aside0.mk hy118
              clear hy118
              have H' := Aside0.mk H
              clear H
              have p117 : 0 ≤ (x8_1 : Int) := of_decide_eq_true (by first | (with_reducible assumption) | assumption)
              have q117 : x8_1 < (l0.length : Int) := of_decide_eq_true (by first | (with_reducible assumption) | assumption)
              obtain ⟨ad117, A117_0, c117_0, e117, hx117_0, hl117_0, hi117_0⟩ := at_L2 HR0.out x8_1 p117 q117
              cases e117
              replace hx117_0 := (HB.out.cell (World.block_lt_of_cell? w _ hx117_0)).trans hx117_0
              have HR117_0 := Aside0.mk hi117_0
              have HC117_0 := Aside0.mk hl117_0
              clear hi117_0 hl117_0
              replace p117 := eq_true p117
              replace q117 := eq_true q117
              go_wp2_with (first | ((with_reducible refine gate_builtin (b := .append) (xs := #[.tmp 12, .tmp 13]) rfl ?_); at_builtin; refine Kd.R_append_rows (Kd.int .u8) (w0 := w) w.heap.size rfl (.tmp 12) (.tmp 13) 27 5 (.int .u8 0) 1 rfl Try.underlying27 info5 rfl (by decide) (by omega) u3 x3_1 (rd_L2 l0 x8_1) _ _ _ (fun _ => True) (fun _ => False) rfl rfl ?aO ?aR (fun _ _ h => h) (fun _ h => h.elim) ?aF ?aB ?aS ?aL ?_; (case aR => repeat (first | exact (Kd.C_below HR117_0.out HB.out) | (with_reducible refine Kd.C_alloc ?_ _) | (with_reducible refine Kd.C_drewN ?_ _) | (with_reducible refine Kd.C_drew ?_))); (case aB => exact (by repeat (first | (with_reducible first | exact HB.out | apply below_alloc | apply pw_below_drewN | apply below_drew1) | exact HB.out))); (case aF => exact (fun _ _ => trivial)); (case aO => exact (by (with_reducible repeat (first | apply Kd.R_alloc | apply Kd.R_drewN | apply Kd.R_drew)); exact HO_3.out)); (case aS => exact (below_size (by repeat (first | (with_reducible first | exact HB.out | apply below_alloc | apply pw_below_drewN | apply below_drew1) | exact HB.out)))); (case aL => have := LMc5.out; omega); intro v119 w6 ho hb hg hat; rw [← Ny118.out] at ho; have n0_ := Aside0.mk (hb); have n1_ := Aside0.mk (ho); clear HB; clear HO_3; have HB := n0_; have HO120 := n1_; clear n0_ n1_; clear ho hb hg hat))
              go_roundg k1
              case measure => have := HK1.out; omega
              case rel => exact ⟨(y118), (wrap64 (x8_1 + 1)), (by first | rfl | (simp; done) | (simp [*]; done)), H', ⟨by have := HK1.out; omega⟩, ⟨by (with_reducible repeat (first | apply Kd.R_alloc | apply Kd.R_drewN | apply Kd.R_drew)); exact HO120.out⟩, ⟨by repeat (first | (with_reducible first | exact HB.out | apply below_alloc | apply pw_below_drewN | apply below_drew1) | exact HB.out)⟩⟩
            · rw [if_neg c5] at H
              exact absurd H (by simp)
          · rw [if_neg c4] at H
            exact absurd H (by simp)
        · rw [if_neg c3] at H
          exact absurd H (by simp)
      · rw [if_neg c2] at H
        have c2b0 : decide (x8_1 < (l0.length : Int)) = false := decide_eq_false c2
        clear c2
        obtain rfl := Option.some.inj H
        go_wp2
        go_ret
        exact ⟨_, by first | rfl | (simp [errW_none, errW_some] <;> rfl) | (simp [*, errW_none, errW_some] <;> rfl), by (with_reducible repeat (first | apply Kd.R_alloc | apply Kd.R_drewN | apply Kd.R_drew)); exact HO_3.out, by repeat (first | (with_reducible first | exact HB.out | apply below_alloc | apply pw_below_drewN | apply below_drew1) | exact HB.out)⟩

end Go.Proofs.Ytgdpabedlghiaaa.PZ
-- printed for this claim by a program (pall.sh)
namespace Go.Proofs.Ytgdpabedlghiaaa.PZ
open Go.RowKit Go.Proofs.YtgdpabedlghiaaaW.PrintWords Go.Proofs.YtgdpabedlghiaaaW.PrintLast Go.Proofs.YtgdpabedlghiaaaW.PrintMore
attribute [local go_sem] max2_int min2_int max_two min_two max_three min_three max_four min_four   -- for this text's walks alone
set_option linter.unusedVariables false
set_option linter.unusedSimpArgs false

/-! ### hanaperref01_Num: function 107 -/
def hanaperref01_Num.l0 : Nat → Int → List Int → Option (List Int)
  | 0, _, _ => none
  | k + 1, x0, x3 => if x0 > 0 then ((some (([(Int.tmod x0 256) % 256] : List Int) : List Int)).bind fun y162 => (if y162.length + x3.length < 140737488355328 then (hanaperref01_Num.l0 k (IntKind.u64.wrap (Int.tdiv x0 256)) (y162 ++ x3)) else (none))) else ((some (([((x3.length : Int)) % 256] : List Int) : List Int)).bind fun y168 => (if y168.length + x3.length < 140737488355328 then (some (y168 ++ x3)) else (none)))
def hanaperref01_Num.f (k : Nat) (a0 : Int) : Option (List Int) := hanaperref01_Num.l0 k a0 ([] : List Int)
theorem hanaperref01_Num.mono_l : ∀ k, (∀ y0 y1, LeO (hanaperref01_Num.l0 k y0 y1) (hanaperref01_Num.l0 (k + 1) y0 y1))
  | 0 => fun _ _ r h => by simp [hanaperref01_Num.l0] at h
  | k + 1 => by
    have ih0 := hanaperref01_Num.mono_l k
    · intro y0 y1
      unfold hanaperref01_Num.l0
      repeat' first
      | (with_reducible exact ih0 _ _)
      | (with_reducible exact LeO.refl _)
      | (with_reducible exact LeO.none _)
      | (with_reducible refine LeO.ite ?_ ?_)
      | (with_reducible refine LeO.bind ?_ (fun _ => ?_))
      | exact ih0 _ _
      | exact LeO.none _
      | refine LeO.ite ?_ ?_
      | refine LeO.bind ?_ (fun _ => ?_)
theorem hanaperref01_Num.mono : ∀ a0 k, LeO (hanaperref01_Num.f k a0) (hanaperref01_Num.f (k + 1) a0) := by
  intro a0 k
  have ih0 := hanaperref01_Num.mono_l k
  unfold hanaperref01_Num.f
  repeat' first
      | (with_reducible exact ih0 _ _)
      | (with_reducible exact LeO.refl _)
      | (with_reducible exact LeO.none _)
      | (with_reducible refine LeO.ite ?_ ?_)
      | (with_reducible refine LeO.bind ?_ (fun _ => ?_))
      | exact ih0 _ _
      | exact LeO.none _
      | refine LeO.ite ?_ ?_
      | refine LeO.bind ?_ (fun _ => ?_)
set_option maxHeartbeats 8000000 in
set_option maxRecDepth 100000 in
theorem hanaperref01_Num.calls (k : Nat) (a0 : Int) (r : List Int) (w : World) (h : hanaperref01_Num.f k a0 = some r) :
    Calls Try.prog 107 #[.int .u64 a0] w fun e w' => ∃ v0_ : Value, e = .returned (v0_) ∧ Kd.R (Kd.int .u8) 5 w' w.heap.size (fun _ => True) v0_ r ∧ Below w.heap.size w w' := by
  have HB := Aside0.mk (Below.refl w.heap.size w)
  have H : (hanaperref01_Num.l0 k a0 ([] : List Int)) = some r := h
  clear h
  have H' := Aside0.mk H
  clear H
  go_enter Try.func107, Try.ntmps107
  go_wp2
  go_loopg [0, 3] k (fun kq v0 v3 w' => ∃ (x0_1 : Int) (x3_1 : List Int), v0 = .int .u64 x0_1 ∧ Aside0 (hanaperref01_Num.l0 kq x0_1 x3_1 = some r) ∧ Aside0 (kq ≤ k) ∧ Aside0 (Kd.R (Kd.int .u8) 5 w' w.heap.size (fun _ => True) v3 x3_1) ∧ Aside0 (Below w.heap.size w w'))
  case atStart => exact ⟨(a0), (([] : List Int)), (by first | rfl | (simp; done) | (simp [*]; done)), H', ⟨Nat.le_refl _⟩, ⟨by first | exact Kd.R_nil _ _ _ _ _ | exact Kd.N_nil _ _ _ _ _ | exact Kd.V_nil _ _ _ _ _ | exact Kd.Q_nil _ _ _ _ _ | exact Kd.S_nil _ _ _ _ _⟩, ⟨by repeat (first | (with_reducible first | exact HB.out | apply below_alloc | apply pw_below_drewN | apply below_drew1) | exact HB.out)⟩⟩
  case round =>
    clear H'
    try clear c1
    obtain ⟨x0_1, x3_1, rfl, HA, HK1, HO_3, HB⟩ := hrel
    cases gk with
    | zero => exact absurd HA.out (by simp [hanaperref01_Num.l0])
    | succ k1 =>
      have H := HA.out
      clear HA
      simp only [hanaperref01_Num.l0] at H
      by_cases c2 : x0_1 > 0
      · rw [if_pos c2] at H
        have c2b0 : decide (0 < x0_1) = true := decide_eq_true c2
        clear c2
        obtain ⟨y162, hy162⟩ : ∃ y_ : List Int, y_ = (([(Int.tmod x0_1 256) % 256] : List Int)) := ⟨_, rfl⟩
        replace H : (if y162.length + x3_1.length < 140737488355328 then (hanaperref01_Num.l0 k1 (IntKind.u64.wrap (Int.tdiv x0_1 256)) (y162 ++ x3_1)) else (none)) = some r := by first | (rw [hy162]; with_reducible exact H) | (have H2_ := (Option.bind_some _ _).symm.trans H; rw [hy162]; with_reducible exact H2_) | (have H2_ := (Option.bind_some _ _).symm.trans H; with_reducible exact H2_) | with_reducible exact H | (rw [hy162]; exact H) | exact H
        have Ny162 := Aside0.mk hy162
        clear hy162
        by_cases c3 : y162.length + x3_1.length < 140737488355328
        · rw [if_pos c3] at H
          have LMc3 := Aside0.mk c3
          clear c3
          obtain ⟨y165, hy165⟩ : ∃ y_ : List Int, y_ = (y162 ++ x3_1) := ⟨_, rfl⟩
          replace H : (hanaperref01_Num.l0 k1 (IntKind.u64.wrap (Int.tdiv x0_1 256)) y165) = some r := by first | (rw [hy165]; with_reducible exact H) | (have H2_ := (Option.bind_some _ _).symm.trans H; rw [hy165]; with_reducible exact H2_) | (have H2_ := (Option.bind_some _ _).symm.trans H; with_reducible exact H2_) | with_reducible exact H | (rw [hy165]; exact H) | exact H
          have Ny165 := Aside0.mk hy165
          clear hy165
          have H' := Aside0.mk H
          clear H
          go_wp2_with (first | ((with_reducible refine gate_dst (N := 9) rfl ?_); refine Kd.R_lit (Kd.int .u8) _ 5 ?hg (N := 9) ?hd (xs := ([(Int.tmod x0_1 256) % 256] : List Int)) (inner := [.int .u8 ((Int.tmod x0_1 256) % 256)]) (ok := fun _ => True) (okp := fun _ => True) ?hr ?hp (fun _ hk => hk) trivial (Below.refl _ _) (Nat.le_refl _) (by simp) ?_; (case hd => rfl); (case hg => rfl); (case hr => first | (go_simp; done) | (go_simp; rfl)); (case hp => exact (Reps.one (show Kd.M (Kd.int .u8) _ _ _ ((Int.tmod x0_1 256) % 256) [.int .u8 ((Int.tmod x0_1 256) % 256)] from rfl) (Reps.none _ _))); intro v163 w4 ho5 hb hg_ hnew_; clear hg_ hnew_; (first | rw [← Ny162.out] at ho5 | (simp only [Int.reduceToNat] at ho5; rw [← Ny162.out] at ho5)); have n0_ := Aside0.mk (Kd.R_elder' (by (with_reducible repeat (first | apply Kd.R_alloc | apply Kd.R_drewN | apply Kd.R_drew)); exact HO_3.out) (Kd.R_base ho5) hb); have n1_ := Aside0.mk (Kd.R_lower (Kd.R_new' ho5 (Kd.R_lt (by (with_reducible repeat (first | apply Kd.R_alloc | apply Kd.R_drewN | apply Kd.R_drew)); exact HO_3.out))) (below_size (by repeat (first | (with_reducible first | exact HB.out | apply below_alloc | apply pw_below_drewN | apply below_drew1) | exact HB.out)))); have n2_ := Aside0.mk (below_step (by repeat (first | (with_reducible first | exact HB.out | apply below_alloc | apply pw_below_drewN | apply below_drew1) | exact HB.out)) hb); clear HO_3; clear HB; have HO_3 := n0_; have HO164 := n1_; have HB := n2_; clear n0_ n1_ n2_; clear hb ho5; obtain ⟨Ao7, co7, eo7⟩ := Kd.R_slice HO_3.out; subst eo7) | ((with_reducible refine gate_builtin (b := .append) (xs := #[.tmp 9, .tmp 10]) rfl ?_); at_builtin; refine Kd.R_append_rows (Kd.int .u8) (w0 := w) w.heap.size rfl (.tmp 9) (.tmp 10) 27 5 (.int .u8 0) 1 rfl Try.underlying27 info5 rfl (by decide) (by omega) v163 y162 x3_1 _ _ _ (fun k_ => some k_ ≠ (.slice Ao7 x3_1.length co7 : Value).ownBlock) (fun _ => False) rfl rfl ?aO ?aR (fun _ _ h => h) (fun _ h => h.elim) ?aF ?aB ?aS ?aL ?_; (case aR => repeat (first | exact (Kd.R_reads' HO_3.out).2.2 | (with_reducible refine Kd.C_alloc ?_ _) | (with_reducible refine Kd.C_drewN ?_ _) | (with_reducible refine Kd.C_drew ?_))); (case aB => exact (by repeat (first | (with_reducible first | exact HB.out | apply below_alloc | apply pw_below_drewN | apply below_drew1) | exact HB.out))); (case aF => exact (fun k_ hk => Kd.fresh' (Kd.R_lt (by (with_reducible repeat (first | apply Kd.R_alloc | apply Kd.R_drewN | apply Kd.R_drew)); exact HO_3.out)) k_ hk)); (case aO => exact (by (with_reducible repeat (first | apply Kd.R_alloc | apply Kd.R_drewN | apply Kd.R_drew)); exact Kd.R_mono HO164.out (fun _ hk => hk.2))); (case aS => exact (below_size (by repeat (first | (with_reducible first | exact HB.out | apply below_alloc | apply pw_below_drewN | apply below_drew1) | exact HB.out)))); (case aL => have := LMc3.out; omega); intro v166 w6 ho hb hg hat; rw [← Ny165.out] at ho; have n0_ := Aside0.mk (Kd.R_after (ok := (fun _ => True)) (by (with_reducible repeat (first | apply Kd.R_alloc | apply Kd.R_drewN | apply Kd.R_drew)); exact HO_3.out) hg hat); have n1_ := Aside0.mk (hb); have n2_ := Aside0.mk (ho); clear HO_3; clear HB; clear HO164; have HO_3 := n0_; have HB := n1_; have HO167 := n2_; clear n0_ n1_ n2_; clear ho hb hg hat))
          go_roundg k1
          case measure => have := HK1.out; omega
          case rel => exact ⟨(IntKind.u64.wrap (Int.tdiv x0_1 256)), (y165), (by first | rfl | (simp; done) | (simp [*]; done)), H', ⟨by have := HK1.out; omega⟩, ⟨by (with_reducible repeat (first | apply Kd.R_alloc | apply Kd.R_drewN | apply Kd.R_drew)); exact Kd.R_mono HO167.out (fun _ hk => trivial)⟩, ⟨by repeat (first | (with_reducible first | exact HB.out | apply below_alloc | apply pw_below_drewN | apply below_drew1) | exact HB.out)⟩⟩
        · rw [if_neg c3] at H
          exact absurd H (by simp)
      · rw [if_neg c2] at H
        have c2b0 : decide (0 < x0_1) = false := decide_eq_false c2
        clear c2
        obtain ⟨y168, hy168⟩ : ∃ y_ : List Int, y_ = (([((x3_1.length : Int)) % 256] : List Int)) := ⟨_, rfl⟩
        replace H : (if y168.length + x3_1.length < 140737488355328 then (some (y168 ++ x3_1)) else (none)) = some r := by first | (rw [hy168]; with_reducible exact H) | (have H2_ := (Option.bind_some _ _).symm.trans H; rw [hy168]; with_reducible exact H2_) | (have H2_ := (Option.bind_some _ _).symm.trans H; with_reducible exact H2_) | with_reducible exact H | (rw [hy168]; exact H) | exact H
        have Ny168 := Aside0.mk hy168
        clear hy168
        by_cases c8 : y168.length + x3_1.length < 140737488355328
        · rw [if_pos c8] at H
          have LMc8 := Aside0.mk c8
          clear c8
          obtain ⟨y171, hy171⟩ : ∃ y_ : List Int, y_ = (y168 ++ x3_1) := ⟨_, rfl⟩
          replace H : (some y171) = some r := by first | (rw [hy171]; with_reducible exact H) | (have H2_ := (Option.bind_some _ _).symm.trans H; rw [hy171]; with_reducible exact H2_) | (have H2_ := (Option.bind_some _ _).symm.trans H; with_reducible exact H2_) | with_reducible exact H | (rw [hy171]; exact H) | exact H
          have Ny171 := Aside0.mk hy171
          clear hy171
          obtain rfl := Option.some.inj H
          obtain ⟨Ao9, co9, eo9⟩ := Kd.R_slice HO_3.out
          subst eo9
          go_wp2_with (first | ((with_reducible refine gate_dst (N := 17) rfl ?_); refine Kd.R_lit (Kd.int .u8) _ 5 ?hg (N := 17) ?hd (xs := ([((x3_1.length : Int)) % 256] : List Int)) (inner := [.int .u8 (((x3_1.length : Int)) % 256)]) (ok := fun _ => True) (okp := fun _ => True) ?hr ?hp (fun _ hk => hk) trivial (Below.refl _ _) (Nat.le_refl _) (by simp) ?_; (case hd => rfl); (case hg => rfl); (case hr => first | (go_simp; done) | (go_simp; rfl)); (case hp => exact (Reps.one (show Kd.M (Kd.int .u8) _ _ _ (((x3_1.length : Int)) % 256) [.int .u8 (((x3_1.length : Int)) % 256)] from rfl) (Reps.none _ _))); intro v169 w10 ho11 hb hg_ hnew_; clear hg_ hnew_; (first | rw [← Ny168.out] at ho11 | (simp only [Int.reduceToNat] at ho11; rw [← Ny168.out] at ho11)); have n0_ := Aside0.mk (Kd.R_elder' (by (with_reducible repeat (first | apply Kd.R_alloc | apply Kd.R_drewN | apply Kd.R_drew)); exact HO_3.out) (Kd.R_base ho11) hb); have n1_ := Aside0.mk (Kd.R_lower (Kd.R_new' ho11 (Kd.R_lt (by (with_reducible repeat (first | apply Kd.R_alloc | apply Kd.R_drewN | apply Kd.R_drew)); exact HO_3.out))) (below_size (by repeat (first | (with_reducible first | exact HB.out | apply below_alloc | apply pw_below_drewN | apply below_drew1) | exact HB.out)))); have n2_ := Aside0.mk (below_step (by repeat (first | (with_reducible first | exact HB.out | apply below_alloc | apply pw_below_drewN | apply below_drew1) | exact HB.out)) hb); clear HO_3; clear HB; have HO_3 := n0_; have HO170 := n1_; have HB := n2_; clear n0_ n1_ n2_; clear hb ho11) | ((with_reducible refine gate_builtin (b := .append) (xs := #[.tmp 17, .tmp 18]) rfl ?_); at_builtin; refine Kd.R_append_rows (Kd.int .u8) (w0 := w) w.heap.size rfl (.tmp 17) (.tmp 18) 27 5 (.int .u8 0) 1 rfl Try.underlying27 info5 rfl (by decide) (by omega) v169 y168 x3_1 _ _ _ (fun k_ => some k_ ≠ (.slice Ao9 x3_1.length co9 : Value).ownBlock) (fun _ => False) rfl rfl ?aO ?aR (fun _ _ h => h) (fun _ h => h.elim) ?aF ?aB ?aS ?aL ?_; (case aR => repeat (first | exact (Kd.R_reads' HO_3.out).2.2 | (with_reducible refine Kd.C_alloc ?_ _) | (with_reducible refine Kd.C_drewN ?_ _) | (with_reducible refine Kd.C_drew ?_))); (case aB => exact (by repeat (first | (with_reducible first | exact HB.out | apply below_alloc | apply pw_below_drewN | apply below_drew1) | exact HB.out))); (case aF => exact (fun k_ hk => Kd.fresh' (Kd.R_lt (by (with_reducible repeat (first | apply Kd.R_alloc | apply Kd.R_drewN | apply Kd.R_drew)); exact HO_3.out)) k_ hk)); (case aO => exact (by (with_reducible repeat (first | apply Kd.R_alloc | apply Kd.R_drewN | apply Kd.R_drew)); exact Kd.R_mono HO170.out (fun _ hk => hk.2))); (case aS => exact (below_size (by repeat (first | (with_reducible first | exact HB.out | apply below_alloc | apply pw_below_drewN | apply below_drew1) | exact HB.out)))); (case aL => have := LMc8.out; omega); intro v172 w12 ho hb hg hat; rw [← Ny171.out] at ho; have n0_ := Aside0.mk (Kd.R_after (ok := (fun _ => True)) (by (with_reducible repeat (first | apply Kd.R_alloc | apply Kd.R_drewN | apply Kd.R_drew)); exact HO_3.out) hg hat); have n1_ := Aside0.mk (hb); have n2_ := Aside0.mk (ho); clear HO_3; clear HB; clear HO170; have HO_3 := n0_; have HB := n1_; have HO173 := n2_; clear n0_ n1_ n2_; clear ho hb hg hat))
          go_ret
          exact ⟨_, by first | rfl | (simp [errW_none, errW_some] <;> rfl) | (simp [*, errW_none, errW_some] <;> rfl), by (with_reducible repeat (first | apply Kd.R_alloc | apply Kd.R_drewN | apply Kd.R_drew)); exact Kd.R_mono HO173.out (fun _ hk => trivial), by repeat (first | (with_reducible first | exact HB.out | apply below_alloc | apply pw_below_drewN | apply below_drew1) | exact HB.out)⟩
        · rw [if_neg c8] at H
          exact absurd H (by simp)

end Go.Proofs.Ytgdpabedlghiaaa.PZ
-- printed for this claim by a program (pall.sh)
namespace Go.Proofs.Ytgdpabedlghiaaa.PZ
open Go.RowKit Go.Proofs.YtgdpabedlghiaaaW.PrintWords Go.Proofs.YtgdpabedlghiaaaW.PrintLast Go.Proofs.YtgdpabedlghiaaaW.PrintMore
attribute [local go_sem] max2_int min2_int max_two min_two max_three min_three max_four min_four   -- for this text's walks alone
set_option linter.unusedVariables false
set_option linter.unusedSimpArgs false

/-! ### hanaperref01_Text: function 60 -/
def hanaperref01_Text.f (k : Nat) (l0 : List Int) : Option (List Int) := (hanaperref01_Num.f k (IntKind.u64.wrap ((l0.length : Int)))).bind fun t174 => (if t174.length + l0.length < 140737488355328 then (some (t174 ++ l0)) else (none))
theorem hanaperref01_Text.mono : ∀ a0 k, LeO (hanaperref01_Text.f k a0) (hanaperref01_Text.f (k + 1) a0) := by
  intro a0 k
  unfold hanaperref01_Text.f
  repeat' first
      | (with_reducible exact hanaperref01_Num.mono _ _)
      | (with_reducible exact LeO.refl _)
      | (with_reducible exact LeO.none _)
      | (with_reducible refine LeO.ite ?_ ?_)
      | (with_reducible refine LeO.bind ?_ (fun _ => ?_))
      | exact hanaperref01_Num.mono _ _
      | exact LeO.none _
      | refine LeO.ite ?_ ?_
      | refine LeO.bind ?_ (fun _ => ?_)
set_option maxHeartbeats 8000000 in
set_option maxRecDepth 100000 in
theorem hanaperref01_Text.calls (k : Nat) (A0 : Option Addr) (c0 : Nat) (l0 : List Int) (r : List Int) (w : World) (hr0 : Kd.C (Kd.int .u8) w A0 l0.length l0) (hc0 : l0.length ≤ c0) (h : hanaperref01_Text.f k l0 = some r) :
    Calls Try.prog 60 #[.slice A0 l0.length c0] w fun e w' => ∃ v0_ : Value, e = .returned (v0_) ∧ Kd.R (Kd.int .u8) 5 w' w.heap.size (fun _ => True) v0_ r ∧ Below w.heap.size w w' := by
  have HR0 := Aside0.mk hr0
  have HC0 := Aside0.mk hc0
  clear hr0 hc0
  have HB := Aside0.mk (Below.refl w.heap.size w)
  have H : ((hanaperref01_Num.f k (IntKind.u64.wrap ((l0.length : Int)))).bind fun t174 => (if t174.length + l0.length < 140737488355328 then (some (t174 ++ l0)) else (none))) = some r := h
  clear h
  replace H := Option.bind_eq_some_iff.mp H
  obtain ⟨t174, A20, H⟩ := H
  replace H : (if t174.length + l0.length < 140737488355328 then (some (t174 ++ l0)) else (none)) = some r := H
  have A2 := Aside0.mk A20
  clear A20
  by_cases c3 : t174.length + l0.length < 140737488355328
  · rw [if_pos c3] at H
    have LMc3 := Aside0.mk c3
    clear c3
    obtain ⟨y177, hy177⟩ : ∃ y_ : List Int, y_ = (t174 ++ l0) := ⟨_, rfl⟩
    replace H : (some y177) = some r := by first | (rw [hy177]; with_reducible exact H) | (have H2_ := (Option.bind_some _ _).symm.trans H; rw [hy177]; with_reducible exact H2_) | (have H2_ := (Option.bind_some _ _).symm.trans H; with_reducible exact H2_) | with_reducible exact H | (rw [hy177]; exact H) | exact H
    have Ny177 := Aside0.mk hy177
    clear hy177
    obtain rfl := Option.some.inj H
    go_enter Try.func60, Try.ntmps60
    go_wp2_with (first | ((with_reducible refine gate_callee (f := 107) rfl ?_); refine goesL_ (some 6) rfl rfl Try.func107 (by kernel_rfl) rfl #[.int .u64 (IntKind.u64.wrap ((l0.length : Int)))] rfl (by (try simp only [List.map_toArray, List.map_cons, List.map_nil]); first | done | rfl | (simp only [List.length_drop, List.length_take]; rfl)) ?_; (with_reducible refine (hanaperref01_Num.calls k (IntKind.u64.wrap ((l0.length : Int))) t174 _ A2.out).mono ?_); rintro e w4 ⟨v175, rfl, ho0, hb⟩; refine ⟨_, rfl, ?_⟩; have n0_ := Aside0.mk (Kd.R_lower ho0 (below_size (by repeat (first | (with_reducible first | exact HB.out | apply below_alloc | apply pw_below_drewN | apply below_drew1) | exact HB.out)))); have n1_ := Aside0.mk (below_step (by repeat (first | (with_reducible first | exact HB.out | apply below_alloc | apply pw_below_drewN | apply below_drew1) | exact HB.out)) hb); clear HB; have HO176 := n0_; have HB := n1_; clear n0_ n1_; (try clear hb); (try clear hb2); (try clear hk); (try clear hi); (try clear ho0)) | ((with_reducible refine gate_builtin (b := .append) (xs := #[.tmp 6, .tmp 7]) rfl ?_); at_builtin; refine Kd.R_append_rows (Kd.int .u8) (w0 := w) w.heap.size rfl (.tmp 6) (.tmp 7) 27 5 (.int .u8 0) 1 rfl Try.underlying27 info5 rfl (by decide) (by omega) v175 t174 l0 _ _ _ (fun _ => True) (fun _ => False) rfl rfl ?aO ?aR (fun _ _ h => h) (fun _ h => h.elim) ?aF ?aB ?aS ?aL ?_; (case aR => repeat (first | exact (Kd.C_below HR0.out HB.out) | (with_reducible refine Kd.C_alloc ?_ _) | (with_reducible refine Kd.C_drewN ?_ _) | (with_reducible refine Kd.C_drew ?_))); (case aB => exact (by repeat (first | (with_reducible first | exact HB.out | apply below_alloc | apply pw_below_drewN | apply below_drew1) | exact HB.out))); (case aF => exact (fun _ _ => trivial)); (case aO => exact (by (with_reducible repeat (first | apply Kd.R_alloc | apply Kd.R_drewN | apply Kd.R_drew)); exact HO176.out)); (case aS => exact (below_size (by repeat (first | (with_reducible first | exact HB.out | apply below_alloc | apply pw_below_drewN | apply below_drew1) | exact HB.out)))); (case aL => have := LMc3.out; omega); intro v178 w5 ho hb hg hat; rw [← Ny177.out] at ho; have n0_ := Aside0.mk (hb); have n1_ := Aside0.mk (ho); clear HB; clear HO176; have HB := n0_; have HO179 := n1_; clear n0_ n1_; clear ho hb hg hat))
    go_ret
    exact ⟨_, by first | rfl | (simp [errW_none, errW_some] <;> rfl) | (simp [*, errW_none, errW_some] <;> rfl), by (with_reducible repeat (first | apply Kd.R_alloc | apply Kd.R_drewN | apply Kd.R_drew)); exact HO179.out, by repeat (first | (with_reducible first | exact HB.out | apply below_alloc | apply pw_below_drewN | apply below_drew1) | exact HB.out)⟩
  · rw [if_neg c3] at H
    exact absurd H (by simp)

end Go.Proofs.Ytgdpabedlghiaaa.PZ
-- printed for this claim by a program (pall.sh)
namespace Go.Proofs.Ytgdpabedlghiaaa.PZ
open Go.RowKit Go.Proofs.YtgdpabedlghiaaaW.PrintWords Go.Proofs.YtgdpabedlghiaaaW.PrintLast Go.Proofs.YtgdpabedlghiaaaW.PrintMore
attribute [local go_sem] max2_int min2_int max_two min_two max_three min_three max_four min_four   -- for this text's walks alone
set_option linter.unusedVariables false
set_option linter.unusedSimpArgs false

/-! ### hanaperref01_Int: function 61 -/
def hanaperref01_Int.f (k : Nat) (a0 : Int) : Option (List Int) := (hanaperref01_Num.f k (IntKind.u64.wrap (a0))).bind fun t180 => (some t180)
theorem hanaperref01_Int.mono : ∀ a0 k, LeO (hanaperref01_Int.f k a0) (hanaperref01_Int.f (k + 1) a0) := by
  intro a0 k
  unfold hanaperref01_Int.f
  repeat' first
      | (with_reducible exact hanaperref01_Num.mono _ _)
      | (with_reducible exact LeO.refl _)
      | (with_reducible exact LeO.none _)
      | (with_reducible refine LeO.ite ?_ ?_)
      | (with_reducible refine LeO.bind ?_ (fun _ => ?_))
      | exact hanaperref01_Num.mono _ _
      | exact LeO.none _
      | refine LeO.ite ?_ ?_
      | refine LeO.bind ?_ (fun _ => ?_)
set_option maxHeartbeats 8000000 in
set_option maxRecDepth 100000 in
theorem hanaperref01_Int.calls (k : Nat) (a0 : Int) (r : List Int) (w : World) (h : hanaperref01_Int.f k a0 = some r) :
    Calls Try.prog 61 #[.int .i64 a0] w fun e w' => ∃ v0_ : Value, e = .returned (v0_) ∧ Kd.R (Kd.int .u8) 5 w' w.heap.size (fun _ => True) v0_ r ∧ Below w.heap.size w w' := by
  have HB := Aside0.mk (Below.refl w.heap.size w)
  have H : ((hanaperref01_Num.f k (IntKind.u64.wrap (a0))).bind fun t180 => (some t180)) = some r := h
  clear h
  replace H := Option.bind_eq_some_iff.mp H
  obtain ⟨t180, A20, H⟩ := H
  replace H : (some t180) = some r := H
  have A2 := Aside0.mk A20
  clear A20
  obtain rfl := Option.some.inj H
  go_enter Try.func61, Try.ntmps61
  go_wp2_with (first | ((with_reducible refine gate_callee (f := 107) rfl ?_); refine goesL_ (some 5) rfl rfl Try.func107 (by kernel_rfl) rfl #[.int .u64 (IntKind.u64.wrap (a0))] rfl (by (try simp only [List.map_toArray, List.map_cons, List.map_nil]); first | done | rfl | (simp only [List.length_drop, List.length_take]; rfl)) ?_; (with_reducible refine (hanaperref01_Num.calls k (IntKind.u64.wrap (a0)) t180 _ A2.out).mono ?_); rintro e w3 ⟨v181, rfl, ho0, hb⟩; refine ⟨_, rfl, ?_⟩; have n0_ := Aside0.mk (Kd.R_lower ho0 (below_size (by repeat (first | (with_reducible first | exact HB.out | apply below_alloc | apply pw_below_drewN | apply below_drew1) | exact HB.out)))); have n1_ := Aside0.mk (below_step (by repeat (first | (with_reducible first | exact HB.out | apply below_alloc | apply pw_below_drewN | apply below_drew1) | exact HB.out)) hb); clear HB; have HO182 := n0_; have HB := n1_; clear n0_ n1_; (try clear hb); (try clear hb2); (try clear hk); (try clear hi); (try clear ho0)))
  go_ret
  exact ⟨_, by first | rfl | (simp [errW_none, errW_some] <;> rfl) | (simp [*, errW_none, errW_some] <;> rfl), by (with_reducible repeat (first | apply Kd.R_alloc | apply Kd.R_drewN | apply Kd.R_drew)); exact HO182.out, by repeat (first | (with_reducible first | exact HB.out | apply below_alloc | apply pw_below_drewN | apply below_drew1) | exact HB.out)⟩

end Go.Proofs.Ytgdpabedlghiaaa.PZ
-- printed for this claim by a program (pall.sh)
namespace Go.Proofs.Ytgdpabedlghiaaa.PZ
open Go.RowKit Go.Proofs.YtgdpabedlghiaaaW.PrintWords Go.Proofs.YtgdpabedlghiaaaW.PrintLast Go.Proofs.YtgdpabedlghiaaaW.PrintMore
attribute [local go_sem] max2_int min2_int max_two min_two max_three min_three max_four min_four   -- for this text's walks alone
set_option linter.unusedVariables false
set_option linter.unusedSimpArgs false

/-! ### hanaperref01_Same: function 18 -/
def hanaperref01_Same.l0 : Nat → List Int → List Int → Int → Option (Bool)
  | 0, _, _, _ => none
  | k + 1, x0, x1, x5 => if x5 < (x0.length : Int) then (if 0 ≤ x5 then (if x5 < (x1.length : Int) then (if (rd x0 x5) = (rd x1 x5) then (hanaperref01_Same.l0 k x0 x1 (wrap64 (x5 + 1))) else (some false)) else (none)) else (none)) else (some true)
def hanaperref01_Same.f (k : Nat) (l0 : List Int) (l1 : List Int) : Option (Bool) := if (l0.length : Int) = (l1.length : Int) then (hanaperref01_Same.l0 k l0 l1 0) else (some false)
theorem hanaperref01_Same.mono_l : ∀ k, (∀ y0 y1 y2, LeO (hanaperref01_Same.l0 k y0 y1 y2) (hanaperref01_Same.l0 (k + 1) y0 y1 y2))
  | 0 => fun _ _ _ r h => by simp [hanaperref01_Same.l0] at h
  | k + 1 => by
    have ih0 := hanaperref01_Same.mono_l k
    · intro y0 y1 y2
      unfold hanaperref01_Same.l0
      repeat' first
      | (with_reducible exact ih0 _ _ _)
      | (with_reducible exact LeO.refl _)
      | (with_reducible exact LeO.none _)
      | (with_reducible refine LeO.ite ?_ ?_)
      | (with_reducible refine LeO.bind ?_ (fun _ => ?_))
      | exact ih0 _ _ _
      | exact LeO.none _
      | refine LeO.ite ?_ ?_
      | refine LeO.bind ?_ (fun _ => ?_)
theorem hanaperref01_Same.mono : ∀ a0 a1 k, LeO (hanaperref01_Same.f k a0 a1) (hanaperref01_Same.f (k + 1) a0 a1) := by
  intro a0 a1 k
  have ih0 := hanaperref01_Same.mono_l k
  unfold hanaperref01_Same.f
  repeat' first
      | (with_reducible exact ih0 _ _ _)
      | (with_reducible exact LeO.refl _)
      | (with_reducible exact LeO.none _)
      | (with_reducible refine LeO.ite ?_ ?_)
      | (with_reducible refine LeO.bind ?_ (fun _ => ?_))
      | exact ih0 _ _ _
      | exact LeO.none _
      | refine LeO.ite ?_ ?_
      | refine LeO.bind ?_ (fun _ => ?_)
set_option maxHeartbeats 8000000 in
set_option maxRecDepth 100000 in
theorem hanaperref01_Same.calls (k : Nat) (A0 : Option Addr) (c0 : Nat) (l0 : List Int) (A1 : Option Addr) (c1 : Nat) (l1 : List Int) (r : Bool) (w : World) (hr0 : Kd.C (Kd.int .u8) w A0 l0.length l0) (hc0 : l0.length ≤ c0) (hr1 : Kd.C (Kd.int .u8) w A1 l1.length l1) (hc1 : l1.length ≤ c1) (h : hanaperref01_Same.f k l0 l1 = some r) :
    Calls Try.prog 18 #[.slice A0 l0.length c0, .slice A1 l1.length c1] w fun e w' => e = .returned (.bool r) ∧ Drawn0 w w' := by
  have HR0 := Aside0.mk hr0
  have HC0 := Aside0.mk hc0
  clear hr0 hc0
  have HR1 := Aside0.mk hr1
  have HC1 := Aside0.mk hc1
  clear hr1 hc1
  have H : (if (l0.length : Int) = (l1.length : Int) then (hanaperref01_Same.l0 k l0 l1 0) else (some false)) = some r := h
  clear h
  by_cases c3 : (l0.length : Int) = (l1.length : Int)
  · rw [if_pos c3] at H
    have c3b0 : ((l0.length : Int) == (l1.length : Int)) = true := beq_iff_eq.mpr c3
    have c3b1 : ((l0.length : Int) != (l1.length : Int)) = false := bne_eq_false_iff_eq.mpr c3
    have c3b2 : (l0.length == l1.length) = true := by first | simpa using c3 | (simp at c3 ⊢; omega)
    clear c3
    have H' := Aside0.mk H
    clear H
    go_enter Try.func18, Try.ntmps18
    go_wp2
    repeat (go_quiet (fail); try go_wp2)
    go_loopg [5] k (fun kq v5 w' => ∃ (x5_1 : Int), v5 = .int .i64 x5_1 ∧ Aside0 (hanaperref01_Same.l0 kq l0 l1 x5_1 = some r) ∧ Aside0 (kq ≤ k) ∧ Drawn0 w w')
    case atStart => exact ⟨(0), (by first | rfl | (simp; done) | (simp [*]; done)), H', ⟨Nat.le_refl _⟩, by repeat (first | exact Drawn0.refl _ | apply Drawn0.step)⟩
    case round =>
      clear H'
      try clear c1
      try clear p2
      try clear c3
      try clear c3b0
      try clear c3b1
      try clear c3b2
      obtain ⟨x5_1, rfl, HA, HK1, ⟨m1, rfl⟩⟩ := hrel
      cases gk with
      | zero => exact absurd HA.out (by simp [hanaperref01_Same.l0])
      | succ k1 =>
        have H := HA.out
        clear HA
        simp only [hanaperref01_Same.l0] at H
        by_cases c4 : x5_1 < (l0.length : Int)
        · rw [if_pos c4] at H
          have c4b0 : decide (x5_1 < (l0.length : Int)) = true := decide_eq_true c4
          clear c4
          by_cases c5 : 0 ≤ x5_1
          · rw [if_pos c5] at H
            have c5b0 : decide (0 ≤ x5_1) = true := decide_eq_true c5
            clear c5
            by_cases c6 : x5_1 < (l1.length : Int)
            · rw [if_pos c6] at H
              have c6b0 : decide (x5_1 < (l1.length : Int)) = true := decide_eq_true c6
              clear c6
              by_cases c7 : (rd l0 x5_1) = (rd l1 x5_1)
              · rw [if_pos c7] at H
                have c7b0 : ((rd l0 x5_1) == (rd l1 x5_1)) = true := beq_iff_eq.mpr c7
                have c7b1 : ((rd l0 x5_1) != (rd l1 x5_1)) = false := bne_eq_false_iff_eq.mpr c7
                clear c7
                have H' := Aside0.mk H
                clear H
                have p141 : 0 ≤ (x5_1 : Int) := of_decide_eq_true (by first | (with_reducible assumption) | assumption)
                have q141 : x5_1 < (l0.length : Int) := of_decide_eq_true (by first | (with_reducible assumption) | assumption)
                obtain ⟨ad141, e141, hx141_0⟩ := Kd.at_int HR0.out x5_1 p141 q141
                cases e141
                replace p141 := eq_true p141
                replace q141 := eq_true q141
                have p142 : 0 ≤ (x5_1 : Int) := of_decide_eq_true (by first | (with_reducible assumption) | assumption)
                have q142 : x5_1 < (l1.length : Int) := of_decide_eq_true (by first | (with_reducible assumption) | assumption)
                obtain ⟨ad142, e142, hx142_0⟩ := Kd.at_int HR1.out x5_1 p142 q142
                cases e142
                replace p142 := eq_true p142
                replace q142 := eq_true q142
                go_wp2
                repeat (go_quiet (fail); try go_wp2)
                go_roundg k1
                case measure => have := HK1.out; omega
                case rel => exact ⟨(wrap64 (x5_1 + 1)), (by first | rfl | (simp; done) | (simp [*]; done)), H', ⟨by have := HK1.out; omega⟩, by repeat (first | exact Drawn0.refl _ | apply Drawn0.step)⟩
              · rw [if_neg c7] at H
                have c7b0 : ((rd l0 x5_1) == (rd l1 x5_1)) = false := beq_eq_false_iff_ne.mpr c7
                have c7b1 : ((rd l0 x5_1) != (rd l1 x5_1)) = true := bne_iff_ne.mpr c7
                obtain rfl := Option.some.inj H
                have p141 : 0 ≤ (x5_1 : Int) := of_decide_eq_true (by first | (with_reducible assumption) | assumption)
                have q141 : x5_1 < (l0.length : Int) := of_decide_eq_true (by first | (with_reducible assumption) | assumption)
                obtain ⟨ad141, e141, hx141_0⟩ := Kd.at_int HR0.out x5_1 p141 q141
                cases e141
                replace p141 := eq_true p141
                replace q141 := eq_true q141
                have p142 : 0 ≤ (x5_1 : Int) := of_decide_eq_true (by first | (with_reducible assumption) | assumption)
                have q142 : x5_1 < (l1.length : Int) := of_decide_eq_true (by first | (with_reducible assumption) | assumption)
                obtain ⟨ad142, e142, hx142_0⟩ := Kd.at_int HR1.out x5_1 p142 q142
                cases e142
                replace p142 := eq_true p142
                replace q142 := eq_true q142
                go_wp2
                repeat (go_quiet (fail); try go_wp2)
                go_ret
                exact ⟨by first | rfl | (simp; done) | (simp [*]; done), by repeat (first | exact Drawn0.refl _ | apply Drawn0.step)⟩
            · rw [if_neg c6] at H
              exact absurd H (by simp)
          · rw [if_neg c5] at H
            exact absurd H (by simp)
        · rw [if_neg c4] at H
          have c4b0 : decide (x5_1 < (l0.length : Int)) = false := decide_eq_false c4
          clear c4
          obtain rfl := Option.some.inj H
          go_wp2
          repeat (go_quiet (fail); try go_wp2)
          go_ret
          exact ⟨by first | rfl | (simp; done) | (simp [*]; done), by repeat (first | exact Drawn0.refl _ | apply Drawn0.step)⟩
  · rw [if_neg c3] at H
    have c3b0 : ((l0.length : Int) == (l1.length : Int)) = false := beq_eq_false_iff_ne.mpr c3
    have c3b1 : ((l0.length : Int) != (l1.length : Int)) = true := bne_iff_ne.mpr c3
    have c3b2 : (l0.length == l1.length) = false := by first | simpa using c3 | (simp at c3 ⊢; omega)
    obtain rfl := Option.some.inj H
    go_enter Try.func18, Try.ntmps18
    go_wp2
    repeat (go_quiet (fail); try go_wp2)
    go_ret
    exact ⟨by first | rfl | (simp; done) | (simp [*]; done), by repeat (first | exact Drawn0.refl _ | apply Drawn0.step)⟩

end Go.Proofs.Ytgdpabedlghiaaa.PZ
-- printed for this claim by a program (pall.sh)
namespace Go.Proofs.Ytgdpabedlghiaaa.PZ
open Go.RowKit Go.Proofs.YtgdpabedlghiaaaW.PrintWords Go.Proofs.YtgdpabedlghiaaaW.PrintLast Go.Proofs.YtgdpabedlghiaaaW.PrintMore
attribute [local go_sem] max2_int min2_int max_two min_two max_three min_three max_four min_four   -- for this text's walks alone
set_option linter.unusedVariables false
set_option linter.unusedSimpArgs false

/-! ### hanaperref01_Copy: function 93 -/
def hanaperref01_Copy.f (l0 : List Int) : Option (List Int) := (some (([] : List Int) : List Int)).bind fun y438 => (if y438.length + l0.length < 140737488355328 then (some (y438 ++ l0)) else (none))
set_option maxHeartbeats 8000000 in
set_option maxRecDepth 100000 in
theorem hanaperref01_Copy.calls (A0 : Option Addr) (c0 : Nat) (l0 : List Int) (r : List Int) (w : World) (hr0 : Kd.C (Kd.int .u8) w A0 l0.length l0) (hc0 : l0.length ≤ c0) (h : hanaperref01_Copy.f l0 = some r) :
    Calls Try.prog 93 #[.slice A0 l0.length c0] w fun e w' => ∃ v0_ : Value, e = .returned (v0_) ∧ Kd.R (Kd.int .u8) 5 w' w.heap.size (fun _ => True) v0_ r ∧ Below w.heap.size w w' := by
  have HR0 := Aside0.mk hr0
  have HC0 := Aside0.mk hc0
  clear hr0 hc0
  have HB := Aside0.mk (Below.refl w.heap.size w)
  have H : ((some (([] : List Int) : List Int)).bind fun y438 => (if y438.length + l0.length < 140737488355328 then (some (y438 ++ l0)) else (none))) = some r := h
  clear h
  obtain ⟨y438, hy438⟩ : ∃ y_ : List Int, y_ = (([] : List Int)) := ⟨_, rfl⟩
  replace H : (if y438.length + l0.length < 140737488355328 then (some (y438 ++ l0)) else (none)) = some r := by first | (rw [hy438]; with_reducible exact H) | (have H2_ := (Option.bind_some _ _).symm.trans H; rw [hy438]; with_reducible exact H2_) | (have H2_ := (Option.bind_some _ _).symm.trans H; with_reducible exact H2_) | with_reducible exact H | (rw [hy438]; exact H) | exact H
  have Ny438 := Aside0.mk hy438
  clear hy438
  by_cases c2 : y438.length + l0.length < 140737488355328
  · rw [if_pos c2] at H
    have LMc2 := Aside0.mk c2
    clear c2
    obtain ⟨y441, hy441⟩ : ∃ y_ : List Int, y_ = (y438 ++ l0) := ⟨_, rfl⟩
    replace H : (some y441) = some r := by first | (rw [hy441]; with_reducible exact H) | (have H2_ := (Option.bind_some _ _).symm.trans H; rw [hy441]; with_reducible exact H2_) | (have H2_ := (Option.bind_some _ _).symm.trans H; with_reducible exact H2_) | with_reducible exact H | (rw [hy441]; exact H) | exact H
    have Ny441 := Aside0.mk hy441
    clear hy441
    obtain rfl := Option.some.inj H
    go_enter Try.func93, Try.ntmps93
    go_wp2_with (first | ((with_reducible refine gate_dst (N := 3) rfl ?_); refine Kd.R_lit (Kd.int .u8) _ 5 ?hg (N := 3) ?hd (xs := ([] : List Int)) (inner := []) (ok := fun _ => True) (okp := fun _ => True) ?hr ?hp (fun _ hk => hk) trivial (Below.refl _ _) (Nat.le_refl _) (by simp) ?_; (case hd => rfl); (case hg => rfl); (case hr => first | (go_simp; done) | (go_simp; rfl)); (case hp => exact (Reps.none _ _)); intro v439 w3 ho4 hb hg_ hnew_; clear hg_ hnew_; (first | rw [← Ny438.out] at ho4 | (simp only [Int.reduceToNat] at ho4; rw [← Ny438.out] at ho4)); have n0_ := Aside0.mk (Kd.R_lower ho4 (below_size (by repeat (first | (with_reducible first | exact HB.out | apply below_alloc | apply pw_below_drewN | apply below_drew1) | exact HB.out)))); have n1_ := Aside0.mk (below_step (by repeat (first | (with_reducible first | exact HB.out | apply below_alloc | apply pw_below_drewN | apply below_drew1) | exact HB.out)) hb); clear HB; have HO440 := n0_; have HB := n1_; clear n0_ n1_; clear hb ho4) | ((with_reducible refine gate_builtin (b := .append) (xs := #[.tmp 3, .tmp 4]) rfl ?_); at_builtin; refine Kd.R_append_rows (Kd.int .u8) (w0 := w) w.heap.size rfl (.tmp 3) (.tmp 4) 27 5 (.int .u8 0) 1 rfl Try.underlying27 info5 rfl (by decide) (by omega) v439 y438 l0 _ _ _ (fun _ => True) (fun _ => False) rfl rfl ?aO ?aR (fun _ _ h => h) (fun _ h => h.elim) ?aF ?aB ?aS ?aL ?_; (case aR => repeat (first | exact (Kd.C_below HR0.out HB.out) | (with_reducible refine Kd.C_alloc ?_ _) | (with_reducible refine Kd.C_drewN ?_ _) | (with_reducible refine Kd.C_drew ?_))); (case aB => exact (by repeat (first | (with_reducible first | exact HB.out | apply below_alloc | apply pw_below_drewN | apply below_drew1) | exact HB.out))); (case aF => exact (fun _ _ => trivial)); (case aO => exact (by (with_reducible repeat (first | apply Kd.R_alloc | apply Kd.R_drewN | apply Kd.R_drew)); exact HO440.out)); (case aS => exact (below_size (by repeat (first | (with_reducible first | exact HB.out | apply below_alloc | apply pw_below_drewN | apply below_drew1) | exact HB.out)))); (case aL => have := LMc2.out; omega); intro v442 w5 ho hb hg hat; rw [← Ny441.out] at ho; have n0_ := Aside0.mk (hb); have n1_ := Aside0.mk (ho); clear HB; clear HO440; have HB := n0_; have HO443 := n1_; clear n0_ n1_; clear ho hb hg hat))
    go_ret
    exact ⟨_, by first | rfl | (simp [errW_none, errW_some] <;> rfl) | (simp [*, errW_none, errW_some] <;> rfl), by (with_reducible repeat (first | apply Kd.R_alloc | apply Kd.R_drewN | apply Kd.R_drew)); exact HO443.out, by repeat (first | (with_reducible first | exact HB.out | apply below_alloc | apply pw_below_drewN | apply below_drew1) | exact HB.out)⟩
  · rw [if_neg c2] at H
    exact absurd H (by simp)

end Go.Proofs.Ytgdpabedlghiaaa.PZ
-- printed for this claim by a program (pall.sh)
namespace Go.Proofs.Ytgdpabedlghiaaa.PZ
open Go.RowKit Go.Proofs.YtgdpabedlghiaaaW.PrintWords Go.Proofs.YtgdpabedlghiaaaW.PrintLast Go.Proofs.YtgdpabedlghiaaaW.PrintMore
attribute [local go_sem] max2_int min2_int max_two min_two max_three min_three max_four min_four   -- for this text's walks alone
set_option linter.unusedVariables false
set_option linter.unusedSimpArgs false

/-! ### hanaperref01_Value: function 124 -/
def hanaperref01_Value.l0 : Nat → List Int → Int → Int → Option (Int)
  | 0, _, _, _ => none
  | k + 1, x0, x3, x4 => if x4 < (x0.length : Int) then (if 0 ≤ x4 then (hanaperref01_Value.l0 k x0 (IntKind.u64.wrap ((IntKind.u64.wrap (x3 * 256)) + (IntKind.u64.wrap (rd x0 x4)))) (wrap64 (x4 + 1))) else (none)) else (some x3)
def hanaperref01_Value.f (k : Nat) (l0 : List Int) : Option (Int) := hanaperref01_Value.l0 k l0 0 0
theorem hanaperref01_Value.mono_l : ∀ k, (∀ y0 y1 y2, LeO (hanaperref01_Value.l0 k y0 y1 y2) (hanaperref01_Value.l0 (k + 1) y0 y1 y2))
  | 0 => fun _ _ _ r h => by simp [hanaperref01_Value.l0] at h
  | k + 1 => by
    have ih0 := hanaperref01_Value.mono_l k
    · intro y0 y1 y2
      unfold hanaperref01_Value.l0
      repeat' first
      | (with_reducible exact ih0 _ _ _)
      | (with_reducible exact LeO.refl _)
      | (with_reducible exact LeO.none _)
      | (with_reducible refine LeO.ite ?_ ?_)
      | (with_reducible refine LeO.bind ?_ (fun _ => ?_))
      | exact ih0 _ _ _
      | exact LeO.none _
      | refine LeO.ite ?_ ?_
      | refine LeO.bind ?_ (fun _ => ?_)
theorem hanaperref01_Value.mono : ∀ a0 k, LeO (hanaperref01_Value.f k a0) (hanaperref01_Value.f (k + 1) a0) := by
  intro a0 k
  have ih0 := hanaperref01_Value.mono_l k
  unfold hanaperref01_Value.f
  repeat' first
      | (with_reducible exact ih0 _ _ _)
      | (with_reducible exact LeO.refl _)
      | (with_reducible exact LeO.none _)
      | (with_reducible refine LeO.ite ?_ ?_)
      | (with_reducible refine LeO.bind ?_ (fun _ => ?_))
      | exact ih0 _ _ _
      | exact LeO.none _
      | refine LeO.ite ?_ ?_
      | refine LeO.bind ?_ (fun _ => ?_)
set_option maxHeartbeats 8000000 in
set_option maxRecDepth 100000 in
theorem hanaperref01_Value.calls (k : Nat) (A0 : Option Addr) (c0 : Nat) (l0 : List Int) (r : Int) (w : World) (hr0 : Kd.C (Kd.int .u8) w A0 l0.length l0) (hc0 : l0.length ≤ c0) (h : hanaperref01_Value.f k l0 = some r) :
    Calls Try.prog 124 #[.slice A0 l0.length c0] w fun e w' => e = .returned (.int .u64 r) ∧ Drawn0 w w' := by
  have HR0 := Aside0.mk hr0
  have HC0 := Aside0.mk hc0
  clear hr0 hc0
  have H : (hanaperref01_Value.l0 k l0 0 0) = some r := h
  clear h
  have H' := Aside0.mk H
  clear H
  go_enter Try.func124, Try.ntmps124
  go_wp2
  go_loopg [3, 4] k (fun kq v3 v4 w' => ∃ (x3_1 : Int) (x4_1 : Int), v3 = .int .u64 x3_1 ∧ v4 = .int .i64 x4_1 ∧ Aside0 (hanaperref01_Value.l0 kq l0 x3_1 x4_1 = some r) ∧ Aside0 (kq ≤ k) ∧ Drawn0 w w')
  case atStart => exact ⟨(0), (0), (by first | rfl | (simp; done) | (simp [*]; done)), (by first | rfl | (simp; done) | (simp [*]; done)), H', ⟨Nat.le_refl _⟩, by repeat (first | exact Drawn0.refl _ | apply Drawn0.step)⟩
  case round =>
    clear H'
    try clear c1
    obtain ⟨x3_1, x4_1, rfl, rfl, HA, HK1, ⟨m1, rfl⟩⟩ := hrel
    cases gk with
    | zero => exact absurd HA.out (by simp [hanaperref01_Value.l0])
    | succ k1 =>
      have H := HA.out
      clear HA
      simp only [hanaperref01_Value.l0] at H
      by_cases c2 : x4_1 < (l0.length : Int)
      · rw [if_pos c2] at H
        have c2b0 : decide (x4_1 < (l0.length : Int)) = true := decide_eq_true c2
        clear c2
        by_cases c3 : 0 ≤ x4_1
        · rw [if_pos c3] at H
          have c3b0 : decide (0 ≤ x4_1) = true := decide_eq_true c3
          clear c3
          have H' := Aside0.mk H
          clear H
          have p444 : 0 ≤ (x4_1 : Int) := of_decide_eq_true (by first | (with_reducible assumption) | assumption)
          have q444 : x4_1 < (l0.length : Int) := of_decide_eq_true (by first | (with_reducible assumption) | assumption)
          obtain ⟨ad444, e444, hx444_0⟩ := Kd.at_int HR0.out x4_1 p444 q444
          cases e444
          replace p444 := eq_true p444
          replace q444 := eq_true q444
          go_wp2
          go_roundg k1
          case measure => have := HK1.out; omega
          case rel => exact ⟨(IntKind.u64.wrap ((IntKind.u64.wrap (x3_1 * 256)) + (IntKind.u64.wrap (rd l0 x4_1)))), (wrap64 (x4_1 + 1)), (by first | rfl | (simp; done) | (simp [*]; done)), (by first | rfl | (simp; done) | (simp [*]; done)), H', ⟨by have := HK1.out; omega⟩, by repeat (first | exact Drawn0.refl _ | apply Drawn0.step)⟩
        · rw [if_neg c3] at H
          exact absurd H (by simp)
      · rw [if_neg c2] at H
        have c2b0 : decide (x4_1 < (l0.length : Int)) = false := decide_eq_false c2
        clear c2
        obtain rfl := Option.some.inj H
        go_wp2
        go_ret
        exact ⟨by first | rfl | (simp; done) | (simp [*]; done), by repeat (first | exact Drawn0.refl _ | apply Drawn0.step)⟩

end Go.Proofs.Ytgdpabedlghiaaa.PZ
/- What the lowest functions come to: numbers and texts as bytes, lists that are the same. -/
namespace Go.Proofs.Ytgdpabedlghiaaa.Lo
open Go.Proofs.Ytgdpabedlghiaaa.Base Go.Proofs.Ytgdpabedlghiaaa.TlvPlain Go.Proofs.Ytgdpabedlghiaaa.Aid Go.RowKit Go.Proofs.YtgdpabedlghiaaaW.PrintWords Go.Proofs.YtgdpabedlghiaaaW.PrintLast Go.Proofs.YtgdpabedlghiaaaW.PrintMore Go.Proofs.Ytgdpabedlghiaaa.PZ

/-- A number's bytes, the highest first. -/
def be (n : Nat) : List Int := if n = 0 then [] else be (n / 256) ++ [((n % 256 : Nat) : Int)]
termination_by n
decreasing_by omega
def numB (n : Int) : List Int := ((be n.toNat).length : Int) :: be n.toNat
def textB (l : List Int) : List Int := numB l.length ++ l
def intB (n : Int) : List Int := numB (IntKind.u64.wrap n)
theorem be_zero : be 0 = [] := by unfold be; rfl
theorem be_pos {n : Nat} (h : 0 < n) : be n = be (n / 256) ++ [((n % 256 : Nat) : Int)] := by
  rw [be, if_neg (by omega)]
theorem be_len {k : Nat} : ∀ {n : Nat}, n < 256 ^ k → (be n).length ≤ k := by
  induction k with
  | zero => intro n h; have : n = 0 := by omega
            subst this; rw [be_zero]; simp
  | succ k ih =>
    intro n h
    by_cases h0 : n = 0
    · subst h0; rw [be_zero]; simp
    · rw [be_pos (by omega), List.length_append, List.length_singleton]
      have := ih (n := n / 256) (by rw [Nat.pow_succ] at h; omega)
      omega
theorem be_u8 (n : Nat) : U8 (be n) := by
  induction n using Nat.strongRecOn with
  | ind n ih =>
    by_cases h0 : n = 0
    · subst h0; rw [be_zero]; exact U8.nil
    · rw [be_pos (by omega)]
      refine (ih (n / 256) (by omega)).append (U8.cons ?_ U8.nil)
      omega
theorem be_value (n : Nat) : valueB (be n) = n := by
  induction n using Nat.strongRecOn with
  | ind n ih =>
    by_cases h0 : n = 0
    · subst h0; rw [be_zero]; rfl
    · rw [be_pos (by omega), valueB_snoc, ih (n / 256) (by omega)]
      omega
theorem be_head (n : Nat) (h : 0 < n) : ∃ x xs, be n = x :: xs ∧ 0 < x := by
  induction n using Nat.strongRecOn with
  | ind n ih =>
    rw [be_pos h]
    by_cases h0 : n / 256 = 0
    · rw [h0, be_zero]
      exact ⟨_, [], rfl, by omega⟩
    · obtain ⟨x, xs, e, hx⟩ := ih (n / 256) (by omega) (by omega)
      rw [e]
      exact ⟨x, xs ++ [_], rfl, hx⟩
theorem be_len8 {n : Int} (h1 : n ≤ 18446744073709551615) : (be n.toNat).length ≤ 8 := be_len (by
  have : (256 : Nat) ^ 8 = 18446744073709551616 := by decide +kernel
  omega)
theorem numB_len {n : Int} (h1 : n ≤ 18446744073709551615) : (numB n).length ≤ 9 := by
  unfold numB; rw [List.length_cons]; have := be_len8 h1; omega
theorem numB_u8 {n : Int} (h1 : n ≤ 18446744073709551615) : U8 (numB n) := by
  unfold numB
  have := be_len8 h1
  exact U8.cons (by omega) (be_u8 _)
theorem u64_range (n : Int) : 0 ≤ IntKind.u64.wrap n ∧ IntKind.u64.wrap n ≤ 18446744073709551615 := by
  have : IntKind.u64.wrap n = n % 18446744073709551616 := by
    simp [IntKind.wrap, IntKind.signed, IntKind.bits]
  rw [this]; omega

/-! ### Num, as the program has it -/
theorem num_fill (w : Int) : ∀ (i m : Nat) (t : List Int), (be m).length = i → m ≤ 18446744073709551615 → i ≤ 8 →
    Ev (fun k => tlv_Num.l1 k (m : Int) (w :: (List.replicate i 0 ++ t)) (i : Int)) (w :: (be m ++ t)) := by
  intro i
  induction i with
  | zero =>
    intro m t hi hm h8
    refine Ev.step (fun k => by simp only [tlv_Num.l1]; rfl) ?_
    refine neg (by omega) (now ?_)
    have : be m = [] := List.length_eq_zero_iff.1 hi
    rw [this]; rfl
  | succ i ih =>
    intro m t hi hm h8
    have hm0 : 0 < m := by
      rcases Nat.eq_zero_or_pos m with h | h
      · subst h; rw [be_zero] at hi; cases hi
      · exact h
    have hb := be_pos hm0
    refine Ev.step (fun k => by simp only [tlv_Num.l1]; rfl) ?_
    refine pos (by omega) (pos (by omega) (pos (by simp; omega) ?_))
    have e1 : wrap64 (((i + 1 : Nat) : Int) - 1) = (i : Int) := by rw [w64 (by omega) (by omega)]; omega
    have e2 : ((m : Int) % 256) = ((m % 256 : Nat) : Int) := by omega
    have e3 : ((m : Int) / 256) = ((m / 256 : Nat) : Int) := by omega
    have e4 : (w :: (List.replicate (i + 1) 0 ++ t)).set (((i + 1 : Nat) : Int)).toNat ((m : Int) % 256) = w :: (List.replicate i 0 ++ (((m % 256 : Nat) : Int) :: t)) := by
      rw [Int.toNat_natCast, List.set_cons_succ, e2, List.replicate_succ']
      congr 1
      rw [List.append_assoc, List.set_append_right _ _ (by simp)]
      simp
    rw [e1, e3, e4]
    have := ih (m / 256) (((m % 256 : Nat) : Int) :: t) (by rw [hb] at hi; simpa using hi) (by omega) (by omega)
    rw [hb, List.append_assoc]
    exact this
theorem num_count (n : Int) (hn0 : 0 ≤ n) (hn1 : n ≤ 18446744073709551615) : ∀ (m c : Nat), c + (be m).length = (be n.toNat).length → m ≤ 18446744073709551615 →
    Ev (fun k => tlv_Num.l0 k n (c : Int) (m : Int)) (numB n) := by
  intro m
  induction m using Nat.strongRecOn with
  | ind m ih =>
    intro c hc hm
    have h8 := be_len8 hn1
    refine Ev.step (fun k => by simp only [tlv_Num.l0]; rfl) ?_
    by_cases h0 : m = 0
    · subst h0
      rw [be_zero] at hc
      simp only [List.length_nil, Nat.add_zero] at hc
      have e1 : wrap64 (1 + (c : Int)) = ((c + 1 : Nat) : Int) := by rw [w64 (by omega) (by omega)]; omega
      rw [e1, Int.toNat_natCast]
      refine neg (by omega) (pos (by omega) (pos (by omega) ?_))
      refine bindSome rfl (pos (by simp) ?_)
      have e2 : (List.replicate (c + 1) (0 : Int)).set ((0 : Int)).toNat ((c : Int) % 256) = (c : Int) :: (List.replicate c 0 ++ []) := by
        rw [List.replicate_succ, show ((0 : Int)).toNat = 0 from rfl, List.set_cons_zero, List.append_nil, Int.emod_eq_of_lt (by omega) (by omega)]
      rw [e2]
      obtain ⟨q, rfl⟩ := Int.eq_ofNat_of_zero_le hn0
      have := num_fill (c : Int) c q [] (by rw [hc]; rfl) (by omega) (by omega)
      unfold numB
      rw [Int.toNat_natCast] at hc ⊢
      rw [← hc]
      simpa using this
    · refine pos (by omega) ?_
      have hb := be_pos (show 0 < m by omega)
      rw [hb, List.length_append, List.length_singleton] at hc
      have e1 : wrap64 ((c : Int) + 1) = ((c + 1 : Nat) : Int) := by rw [w64 (by omega) (by omega)]; omega
      have e3 : ((m : Int) / 256) = ((m / 256 : Nat) : Int) := by omega
      rw [e1, e3]
      exact ih (m / 256) (by omega) (c + 1) (by omega) (by omega)
theorem num_ev (n : Int) (hn0 : 0 ≤ n) (hn1 : n ≤ 18446744073709551615) : Ev (fun k => tlv_Num.f k n) (numB n) := by
  have := num_count n hn0 hn1 n.toNat 0 (by omega) (by omega)
  rw [show ((n.toNat : Nat) : Int) = n from by omega] at this
  exact this
/-! ### Num, as the document has it -/
theorem rnum_loop : ∀ (m : Nat) (t : List Int), m ≤ 18446744073709551615 → (be m).length + t.length ≤ 8 →
    Ev (fun k => hanaperref01_Num.l0 k (m : Int) t) ((((be m ++ t).length : Nat) : Int) :: (be m ++ t)) := by
  intro m
  induction m using Nat.strongRecOn with
  | ind m ih =>
    intro t hm ht
    refine Ev.step (fun k => by simp only [hanaperref01_Num.l0]; rfl) ?_
    by_cases h0 : m = 0
    · subst h0
      refine neg (by omega) (bindSome rfl (pos (by simp; omega) (now ?_)))
      rw [be_zero] at ht ⊢
      simp only [List.length_nil] at ht
      rw [Int.emod_eq_of_lt (by omega) (by omega)]; rfl
    · refine pos (by omega) (bindSome rfl (pos (by simp; omega) ?_))
      have hb := be_pos (show 0 < m by omega)
      rw [hb, List.length_append, List.length_singleton] at ht
      have e1 : IntKind.u64.wrap (Int.tdiv (m : Int) 256) = ((m / 256 : Nat) : Int) := by
        rw [Int.tdiv_eq_ediv_of_nonneg (by omega), u64 (by omega) (by omega)]; omega
      have e2 : (Int.tmod (m : Int) 256) % 256 = ((m % 256 : Nat) : Int) := by
        rw [Int.tmod_eq_emod_of_nonneg (by omega)]; omega
      rw [e1, e2, hb, List.append_assoc]
      exact ih (m / 256) (by omega) _ (by omega) (by simp; omega)
theorem rnum_ev (n : Int) (hn0 : 0 ≤ n) (hn1 : n ≤ 18446744073709551615) : Ev (fun k => hanaperref01_Num.f k n) (numB n) := by
  have := rnum_loop n.toNat [] (by omega) (by have := be_len8 hn1; simpa using this)
  rw [show ((n.toNat : Nat) : Int) = n from by omega, List.append_nil] at this
  exact this
/-! ### texts and ints -/
theorem len_u64 (l : List Int) (h : l.length < 140737488355000) : IntKind.u64.wrap ((l.length : Nat) : Int) = l.length := u64 (by omega) (by omega)
theorem text_ev (l : List Int) (h : l.length < 140737488355000) : Ev (fun k => tlv_Text.f k l) (textB l) := by
  unfold tlv_Text.f
  rw [len_u64 l h]
  refine evBind (num_ev _ (by omega) (by omega)) (pos ?_ (now rfl))
  have := numB_len (n := (l.length : Int)) (by omega)
  omega
theorem rtext_ev (l : List Int) (h : l.length < 140737488355000) : Ev (fun k => hanaperref01_Text.f k l) (textB l) := by
  unfold hanaperref01_Text.f
  rw [len_u64 l h]
  refine evBind (rnum_ev _ (by omega) (by omega)) (pos ?_ (now rfl))
  have := numB_len (n := (l.length : Int)) (by omega)
  omega
theorem int_ev (n : Int) : Ev (fun k => tlv_Int.f k n) (intB n) := by
  unfold tlv_Int.f
  exact evBind (num_ev _ (u64_range n).1 (u64_range n).2) (now rfl)
theorem rint_ev (n : Int) : Ev (fun k => hanaperref01_Int.f k n) (intB n) := by
  unfold hanaperref01_Int.f
  exact evBind (rnum_ev _ (u64_range n).1 (u64_range n).2) (now rfl)
theorem all_loop (l : List (List Int)) (hl : l.length ≤ 4611686018427387904) (ht : l.flatten.length < 140737488355328) : ∀ (d i : Nat), i + d = l.length →
    Ev (fun k => tlv_All.l0 k (l.take i).flatten l (l.length : Int) (i : Int)) l.flatten := by
  intro d
  induction d with
  | zero =>
    intro i hi
    refine Ev.step (fun k => by simp only [tlv_All.l0]; rfl) ?_
    refine neg (by omega) (now ?_)
    rw [List.take_of_length_le (by omega)]
  | succ d ih =>
    intro i hi
    have hil : i < l.length := by omega
    refine Ev.step (fun k => by simp only [tlv_All.l0]; rfl) ?_
    have e : rd_L2 l (i : Int) = l[i] := by simp [rd_L2, List.getD_eq_getElem?_getD, List.getElem?_eq_getElem hil]
    have e2 : (l.take i).flatten ++ l[i] = (l.take (i + 1)).flatten := by rw [take_snoc l i hil, List.flatten_append]; simp
    rw [e, inc hil hl, e2]
    refine pos (by omega) (pos (by omega) (pos (by omega) (pos ?_ (ih (i + 1) (by omega)))))
    have h1 : (l.take i).flatten.length + l[i].length = (l.take (i + 1)).flatten.length := by rw [← e2, List.length_append]
    have h2 : l.flatten = (l.take (i + 1)).flatten ++ (l.drop (i + 1)).flatten := by rw [← List.flatten_append, List.take_append_drop]
    rw [h2, List.length_append] at ht
    omega
theorem all_ev (l : List (List Int)) (hl : l.length ≤ 4611686018427387904) (ht : l.flatten.length < 140737488355328) : Ev (fun k => tlv_All.f k l) l.flatten := by
  have := all_loop l hl ht l.length 0 (by omega)
  exact this
/-! ### lists that are the same -/
theorem same_from (a b : List Int) (hl : a.length = b.length) (hn : a.length ≤ 4611686018427387904) : ∀ (d i : Nat), i + d = a.length →
    Ev (fun k => hanaperref01_Same.l0 k a b i) (decide (a.drop i = b.drop i)) := by
  intro d
  induction d with
  | zero =>
    intro i hi
    refine Ev.step (fun k => by simp only [hanaperref01_Same.l0]; rfl) ?_
    refine neg (by omega) (now ?_)
    rw [List.drop_of_length_le (by omega), List.drop_of_length_le (by omega)]; simp
  | succ d ih =>
    intro i hi
    refine Ev.step (fun k => by simp only [hanaperref01_Same.l0]; rfl) ?_
    refine pos (by omega) (pos (by omega) (pos (by omega) ?_))
    rw [rd_nat a i (by omega), rd_nat b i (by omega), drop_cons a i (by omega), drop_cons b i (by omega), inc (show i < a.length by omega) hn]
    by_cases e : a[i]'(by omega) = b[i]'(by omega)
    · refine pos e ?_
      have := ih (i + 1) (by omega)
      generalize a.drop (i + 1) = A at this ⊢
      generalize b.drop (i + 1) = B at this ⊢
      simpa [e] using this
    · refine neg e (now ?_)
      generalize a.drop (i + 1) = A
      generalize b.drop (i + 1) = B
      simp [e]
theorem same_ev (a b : List Int) (hn : a.length ≤ 4611686018427387904) : Ev (fun k => hanaperref01_Same.f k a b) (decide (a = b)) := by
  unfold hanaperref01_Same.f
  by_cases e : a.length = b.length
  · refine pos (by omega) ?_
    simpa using same_from a b e hn a.length 0 (by omega)
  · refine neg (by omega) (now ?_)
    have : a ≠ b := fun h => e (by rw [h])
    simp [this]
theorem copy_ev (l : List Int) (h : l.length < 140737488355328) : hanaperref01_Copy.f l = some l := by
  unfold hanaperref01_Copy.f
  simp only [Option.bind_some]
  rw [if_pos (by simpa using h)]; rfl
theorem value_loop (l : List Int) (hu : U8 l) (h8 : l.length ≤ 8) : ∀ (d i : Nat), i + d = l.length →
    Ev (fun k => hanaperref01_Value.l0 k l (valueB (l.take i)) (i : Int)) (valueB l) := by
  intro d
  induction d with
  | zero =>
    intro i hi
    refine Ev.step (fun k => by simp only [hanaperref01_Value.l0]; rfl) ?_
    refine neg (by omega) (now ?_)
    rw [List.take_of_length_le (by omega)]
  | succ d ih =>
    intro i hi
    have hil : i < l.length := by omega
    refine Ev.step (fun k => by simp only [hanaperref01_Value.l0]; rfl) ?_
    refine pos (by omega) (pos (by omega) ?_)
    have h1 := valueB_u64 (hu.take i) (by rw [List.length_take]; omega)
    have h2 := valueB_u64 (hu.take (i + 1)) (by rw [List.length_take]; omega)
    have hx := hu _ (List.getElem_mem hil)
    have e2 := h2
    rw [take_snoc l i hil, valueB_snoc] at e2
    rw [rd_nat l i hil, inc hil (by omega), u64 (x := valueB (l.take i) * 256) (by omega) (by omega), u64 (x := l[i]) (by omega) (by omega), u64 (by omega) (by omega), ← valueB_snoc, ← take_snoc l i hil]
    exact ih (i + 1) (by omega)
theorem value_ev (l : List Int) (hu : U8 l) (h8 : l.length ≤ 8) : Ev (fun k => hanaperref01_Value.f k l) (valueB l) := by
  have := value_loop l hu h8 l.length 0 (by omega)
  exact this

/-! ### what was put is read -/
theorem numO_numB (n : Int) (hn0 : 0 ≤ n) (hn1 : n ≤ 18446744073709551615) (rest : List Int) : numO (some (numB n ++ rest)) = (n, some rest) := by
  have h8 := be_len8 hn1
  unfold numB numO
  simp only [List.cons_append]
  rw [if_neg (by omega), if_neg (by rw [List.length_append]; omega), if_neg, Int.toNat_natCast]
  · rw [List.take_left', List.drop_left', be_value]
    · rw [Int.toNat_of_nonneg hn0]
    · rfl
    · rfl
  · rintro ⟨h1, h2⟩
    have : 0 < n.toNat := by
      rcases Nat.eq_zero_or_pos n.toNat with h | h
      · rw [h, be_zero] at h1; simp at h1
      · exact h
    obtain ⟨x, xs, e, hx⟩ := be_head n.toNat this
    rw [e] at h2
    simp at h2
    omega
/-- What is read as a number is just what is made of it. -/
theorem be_unique : ∀ (l : List Int), U8 l → (l = [] ∨ l.getD 0 0 ≠ 0) → be (valueB l).toNat = l := by
  have H : ∀ n (l : List Int), l.length = n → U8 l → (l = [] ∨ l.getD 0 0 ≠ 0) → be (valueB l).toNat = l := by
    intro n
    induction n with
    | zero =>
      intro l hl _ _
      have : l = [] := List.length_eq_zero_iff.1 hl
      subst this
      exact be_zero
    | succ n ih =>
      intro l hl hu hh
      have hne : l ≠ [] := by intro e; rw [e] at hl; cases hl
      have hd := List.dropLast_concat_getLast hne
      have hu1 : U8 l.dropLast := fun x hx => hu x ((List.dropLast_sublist l).subset hx)
      have hx := hu (l.getLast hne) (List.getLast_mem hne)
      have hr := valueB_range hu1
      have h0 : l.getD 0 0 ≠ 0 := hh.resolve_left hne
      have ih' := ih l.dropLast (by simp [hl]) hu1 (by
        by_cases e : l.dropLast = []
        · exact .inl e
        · right
          intro e2
          apply h0
          have := List.length_pos_iff.2 e
          rw [← hd, List.getD_eq_getElem?_getD, List.getElem?_append_left this, ← List.getD_eq_getElem?_getD]
          exact e2)
      have hpos : 0 < (valueB l).toNat := by
        rw [← hd, valueB_snoc]
        by_cases e : l.dropLast = []
        · rw [e] at hd ⊢
          rw [← hd] at h0
          have : l.getLast hne ≠ 0 := by simpa using h0
          simp only [valueB, List.foldl_nil]
          omega
        · have hv : valueB l.dropLast ≠ 0 := by
            intro e2
            rw [e2] at ih'
            rw [show (0 : Int).toNat = 0 from rfl, be_zero] at ih'
            exact e ih'.symm
          omega
      rw [be_pos hpos]
      have e1 : (valueB l).toNat / 256 = (valueB l.dropLast).toNat := by
        have : valueB l = valueB l.dropLast * 256 + l.getLast hne := by rw [← valueB_snoc, hd]
        omega
      have e2 : (((valueB l).toNat % 256 : Nat) : Int) = l.getLast hne := by
        have : valueB l = valueB l.dropLast * 256 + l.getLast hne := by rw [← valueB_snoc, hd]
        omega
      rw [e1, e2, ih', hd]
  exact fun l hu hh => H _ l rfl hu hh
theorem numO_back {b : List Int} (hu : U8 b) {m : Int} {r : List Int} (h : numO (some b) = (m, some r)) : b = numB m ++ r ∧ 0 ≤ m ∧ m ≤ 18446744073709551615 := by
  have hr := numO_range (st := some b) (fun _ e => by cases e; exact hu)
  rw [h] at hr
  refine ⟨?_, hr⟩
  cases b with
  | nil => simp [numO] at h
  | cons x t =>
    simp only [numO] at h
    have hx := hu.head
    by_cases h1 : x > 8
    · rw [if_pos h1] at h; simp at h
    rw [if_neg h1] at h
    by_cases h2 : (t.length : Int) < x
    · rw [if_pos h2] at h; simp at h
    rw [if_neg h2] at h
    by_cases h3 : 0 < x ∧ t.getD 0 0 = 0
    · rw [if_pos h3] at h; simp at h
    rw [if_neg h3] at h
    simp only [Prod.mk.injEq, Option.some.injEq] at h
    obtain ⟨rfl, rfl⟩ := h
    have hb := be_unique (t.take x.toNat) (hu.tail.take _) (by
      by_cases h0 : 0 < x
      · right
        intro e
        apply h3
        refine ⟨h0, ?_⟩
        cases t with
        | nil => simp
        | cons y t =>
          obtain ⟨q, hq⟩ : ∃ q, x.toNat = q + 1 := ⟨x.toNat - 1, by omega⟩
          rw [hq] at e
          simpa using e
      · left
        have : x.toNat = 0 := by omega
        rw [this]; rfl)
    unfold numB
    rw [hb, List.length_take, Nat.min_eq_left (by omega), List.cons_append, List.take_append_drop]
    congr 1
    omega
end Go.Proofs.Ytgdpabedlghiaaa.Lo
