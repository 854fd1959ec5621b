/- Own and printed texts, laid together. -/
import Derived.Test.YtgdpabedlghiaaaSpGB
/- scope.counter.may and scope.Check walked (printed by gen_scopemay.py). -/
namespace Go.Proofs.Ytgdpabedlghiaaa.Scope
set_option linter.unusedVariables false
set_option linter.unusedSimpArgs false
open Go.RowKit Go.Proofs.YtgdpabedlghiaaaW.PrintWords Go.Proofs.YtgdpabedlghiaaaW.PrintLast Go.Proofs.YtgdpabedlghiaaaW.PrintMore Go.Proofs.Ytgdpabedlghiaaa.PZ
def namedB (op : Int) : Bool := decide (op = 2) || decide (op = 3) || decide (op = 4)
def fieldsB (op : Int) (nm : ByteArray) (fr to_ : Int) : Bool :=
 if op < 1 ∨ op > 8 then false else if namedB op = true ∧ Name.nameB nm = false then false else if namedB op = false ∧ nm.toList ≠ [] then false
 else if op = 5 then decide (fr ≥ 0) && (decide (fr ≤ to_) && decide (to_ ≤ 1099511627776)) else decide (fr = 0) && decide (to_ = 0)
theorem named_v (op : Int) : scope_named.f op = some (namedB op) := by
 unfold scope_named.f namedB
 by_cases h2 : op = 2
 ·simp [h2]
 ·by_cases h3 : op = 3
  ·simp [h3]
  ·by_cases h4 : op = 4 <;> simp [h2, h3, h4]
theorem fields_j2 (k : Nat) (b : Bool) (op : Int) (nm : ByteArray) (fr to_ : Int) (l : List S40) : scope_fields.j2 (k + 1) b op nm fr to_ l = some (if b = true then false else if op = 5 then decide (fr ≥ 0) && (decide (fr ≤ to_) && decide (to_ ≤ 1099511627776)) else decide (fr = 0) && decide (to_ = 0)) := by
 unfold scope_fields.j2
 cases b
 ·by_cases h5 : op = 5
  ·by_cases h1 : fr ≥ 0
   ·by_cases h2 : fr ≤ to_ <;> simp [h5, h1, h2]
   ·simp [h5, h1]
  ·by_cases h1 : fr = 0
   ·by_cases h2 : to_ = 0 <;> simp [h5, h1, h2]
   ·simp [h5, h1]
 ·simp
theorem fields_j1 (k : Nat) (b : Bool) (op : Int) (nm : ByteArray) (fr to_ : Int) (l : List S40) : scope_fields.j1 (k + 2) b op nm fr to_ l = some (if b = true then false else if namedB op = false ∧ nm.toList ≠ [] then false else if op = 5 then decide (fr ≥ 0) && (decide (fr ≤ to_) && decide (to_ ≤ 1099511627776)) else decide (fr = 0) && decide (to_ = 0)) := by
 rw [show k + 2 = (k + 1) + 1 from rfl, scope_fields.j1]
 cases b
 ·rw [if_neg (by decide), named_v, Option.bind_some]
  cases hn : namedB op
  ·rw [if_neg (by decide), fields_j2]
   by_cases hs : nm.toList = [] <;> simp [hs]
  ·rw [if_pos rfl, fields_j2]
   simp
 ·rw [if_pos rfl, fields_j2]
  simp
theorem fields_j0 (k : Nat) (b : Bool) (op : Int) (nm : ByteArray) (fr to_ : Int) (l : List S40) : scope_fields.j0 (k + 3) b op nm fr to_ l = some (if b = true then false else if namedB op = true ∧ Name.nameB nm = false then false else if namedB op = false ∧ nm.toList ≠ [] then false else if op = 5 then decide (fr ≥ 0) && (decide (fr ≤ to_) && decide (to_ ≤ 1099511627776)) else decide (fr = 0) && decide (to_ = 0)) := by
 rw [show k + 3 = (k + 2) + 1 from rfl, scope_fields.j0]
 cases b
 ·rw [if_neg (by decide), named_v, Option.bind_some]
  cases hn : namedB op
  ·rw [if_neg (by decide), fields_j1, hn]
   simp
  ·rw [if_pos rfl]
   unfold inode_Name.f
   rw [Option.bind_some, fields_j1, hn]
   cases hm : Name.nameB nm <;> simp
 ·rw [if_pos rfl]
  simp
theorem fields_v (k : Nat) (op : Int) (nm : ByteArray) (fr to_ : Int) (l : List S40) : scope_fields.f (k + 3) op nm fr to_ l = some (fieldsB op nm fr to_) := by
 unfold scope_fields.f fieldsB
 by_cases h1 : op < 1
 ·rw [if_pos h1, fields_j0, if_pos rfl, if_pos (Or.inl h1)]
 ·rw [if_neg h1, fields_j0]
  by_cases h8 : op > 8
  ·rw [decide_eq_true h8, if_pos rfl, if_pos (Or.inr h8)]
  ·rw [decide_eq_false h8, if_neg (by decide), if_neg (by omega : ¬ (op < 1 ∨ op > 8))]
def leastB (op : Int) : Int := if op = 8 then 1 else if op = 6 then 2 else if op = 7 then 2 else 0
def mostB (op : Int) : Int := if op = 8 then 1 else if op = 6 then 24 else if op = 7 then 24 else 0
theorem kids_v (op : Int) : scope_kids.f op = some (leastB op, mostB op) := by
 unfold scope_kids.f leastB mostB
 by_cases h8 : op = 8
 ·simp [h8]
 ·by_cases h6 : op = 6
  ·simp [h6]
  ·by_cases h7 : op = 7 <;> simp [h8, h6, h7]
mutual
/-- May a scope be, so deep, with so many nodes left? And how many are left. -/
def mayS : S40 → Int → Int → Bool × Int
 | ⟨op, nm, fr, to_, kids⟩, deep, left =>
  if wrap64 (left - 1) < 0 then (false, wrap64 (left - 1)) else if deep = 0 then (false, wrap64 (left - 1)) else if fieldsB op nm fr to_ = false then (false, wrap64 (left - 1))
  else if (kids.length : Int) < leastB op then (false, wrap64 (left - 1)) else if mostB op < (kids.length : Int) then (false, wrap64 (left - 1))
  else (!(mayAny kids (wrap64 (deep - 1)) (wrap64 (left - 1))).1, (mayAny kids (wrap64 (deep - 1)) (wrap64 (left - 1))).2)
def mayAny : List S40 → Int → Int → Bool × Int
 | [], _, l => (false, l)
 | k :: ks, d, l => if (mayS k d l).1 = false then (true, (mayS k d l).2) else mayAny ks d (mayS k d l).2
end
theorem mayAny_run (d : Int) : ∀ (ks : List S40) (l : Int), runAny (fun k l => (!(mayS k d l).1, (mayS k d l).2)) ks l = mayAny ks d l
 | [], l => by simp [runAny, mayAny]
 | k :: ks, l => by
  rw [runAny, mayAny]
  cases h : (mayS k d l).1
  ·simp
  ·simp [mayAny_run d ks]
/-- All but one block stands. -/
def Kp (g : Nat) (w w' : World) : Prop := Below g w w' ∧ ∀ k, k ≠ g → k < w.heap.size → w'.heap[k]? = w.heap[k]?
theorem Kp.refl (g : Nat) (w : World) : Kp g w w := ⟨Below.refl _ _, fun _ _ _ => rfl⟩
theorem Kp.trans {g : Nat} {a b c : World} (h : Kp g a b) (k : Kp g b c) : Kp g a c := ⟨h.1.trans k.1, fun i hi hl => (k.2 i hi (Nat.lt_of_lt_of_le hl h.1.size)).trans (h.2 i hi hl)⟩
theorem Kp.of_below {g : Nat} {a b : World} (h : Below a.heap.size a b) (hg : g ≤ a.heap.size) : Kp g a b := ⟨h.mono hg, fun k _ hl => h.block k hl⟩
theorem Kp.set (g : Nat) (w : World) (v : Value) : Kp g w (w.setCell ⟨g, 0, none⟩ v) :=
 ⟨⟨rfl, rfl, rfl, by simp [World.setCell], fun k hk => Below.heap_setCell w ⟨g, 0, none⟩ v k (Nat.ne_of_lt hk)⟩, fun k hk _ => Below.heap_setCell w ⟨g, 0, none⟩ v k hk⟩
theorem Blk.kp {g k T : Nat} {w w' : World} {cs : Array Value} (h : Blk w k T cs) (hk : Kp g w w') (hne : k ≠ g) : Blk w' k T cs := (hk.2 k hne (blk_lt h)).trans h
theorem Kp.base {g b : Nat} {w0 w w' : World} (h : Kp g w w') (hb : Below b w0 w) (hg : b ≤ g) : Below b w0 w' := hb.trans (h.1.mono hg)
/-- What is known of may at a scope. -/
def MayC (x : S40) : Prop := ∀ (gc : Nat) (deep left : Int) A c w0 w, Kd.C k40 w0 A x.f4.length x.f4 → x.f4.length ≤ c → w0.heap.size ≤ gc → Below w0.heap.size w0 w → Blk w gc 94 #[.int .i64 left] →
 Calls Try.prog 70 #[.pointer (some ⟨gc, 0, none⟩), .agg #[.int .i64 x.f0, .string x.f1, .int .i64 x.f2, .int .i64 x.f3, .slice A x.f4.length c], .int .i64 deep] w fun e w' => e = .returned (.bool (mayS x deep left).1) ∧ Blk w' gc 94 #[.int .i64 (mayS x deep left).2] ∧ Kp gc w w'
set_option maxHeartbeats 1000000 in
set_option maxRecDepth 100000 in
theorem mayk_c {x : S40} (hm : MayC x) (gc g0 g1 : Nat) (deep left : Int) (A : Option Addr) (c : Nat) (w0 w : World) (hr : Kd.C k40 w0 A x.f4.length x.f4) (hc : x.f4.length ≤ c) (hg : w0.heap.size ≤ gc) (hb : Below w0.heap.size w0 w) (hL : Blk w gc 94 #[.int .i64 left])
  (h0 : Blk w g0 92 #[.pointer (some ⟨gc, 0, none⟩)]) (h1 : Blk w g1 3 #[.int .i64 deep]) :
  Calls Try.prog 114 #[.agg #[.int .i64 x.f0, .string x.f1, .int .i64 x.f2, .int .i64 x.f3, .slice A x.f4.length c], .pointer (some ⟨g0, 0, none⟩), .pointer (some ⟨g1, 0, none⟩)] w fun e w' => e = .returned (.bool (!(mayS x (wrap64 (deep - 1)) left).1)) ∧ Blk w' gc 94 #[.int .i64 (mayS x (wrap64 (deep - 1)) left).2] ∧ Kp gc w w' := by
 have HK := Aside0.mk (Kp.of_below (g := gc) (below_alloc (Below.refl w.heap.size w) (.cells #[.int .i64 x.f0, .string x.f1, .int .i64 x.f2, .int .i64 x.f3, .slice A x.f4.length c] 40)) (Nat.le_of_lt hL.lt))
 have HC := Aside0.mk (hm gc (wrap64 (deep - 1)) left A c w0 _ hr hc hg (below_alloc hb (.cells #[.int .i64 x.f0, .string x.f1, .int .i64 x.f2, .int .i64 x.f3, .slice A x.f4.length c] 40)) (hL.alloc _))
 have d0 := (h0.alloc (.cells #[.int .i64 x.f0, .string x.f1, .int .i64 x.f2, .int .i64 x.f3, .slice A x.f4.length c] 40)).cell 0
 have d1 := (h1.alloc (.cells #[.int .i64 x.f0, .string x.f1, .int .i64 x.f2, .int .i64 x.f3, .slice A x.f4.length c] 40)).cell 0
 simp only [List.getElem?_toArray, List.getElem?_cons_zero] at d0 d1
 have hu40 := Try.underlying40
 obtain ⟨r, hr_⟩ : ∃ r, mayS x (wrap64 (deep - 1)) left = r := ⟨_, rfl⟩
 rw [hr_] at HC ⊢
 obtain ⟨b, l2⟩ := r
 clear hm hr hc hg hb hL h0 h1 hr_
 dsimp only at HC ⊢
 go_enter Try.func114, Try.ntmps114
 go_wp2_with (go_at_call 70; refine HC.out.mono ?_; rintro e w' ⟨rfl, h1, h2⟩; have H1 := Aside0.mk h1; have H2 := Aside0.mk (HK.out.trans h2); clear h1 h2)
 go_ret
 exact ⟨rfl, H1.out, H2.out⟩
theorem blk1 (w : World) (a o : Obj) : ((w.alloc a).alloc o).heap[w.heap.size]? = some a := blk_alloc (blk_new _ _) _
set_option maxHeartbeats 4000000 in
set_option maxRecDepth 100000 in
theorem may_n : ∀ (n : Nat) (x : S40), SizeOf.sizeOf x < n → MayC x := by
 intro n
 induction n with
 | zero => intro x h; exact absurd h (by omega)
 | succ n ih =>
 intro x hn gc deep left A c w0 w hr hc hg hb hL
 have HIH := Aside0.mk (fun k (hk : k ∈ x.f4) => ih k (by have := kid_lt hk; omega))
 have HR := Aside0.mk hr
 have HC := Aside0.mk hc
 have HG := Aside0.mk hg
 have HV := Aside0.mk (show mayS x deep left = if wrap64 (left - 1) < 0 then (false, wrap64 (left - 1)) else if deep = 0 then (false, wrap64 (left - 1)) else if fieldsB x.f0 x.f1 x.f2 x.f3 = false then (false, wrap64 (left - 1))
   else if (x.f4.length : Int) < leastB x.f0 then (false, wrap64 (left - 1)) else if mostB x.f0 < (x.f4.length : Int) then (false, wrap64 (left - 1))
   else (!(mayAny x.f4 (wrap64 (deep - 1)) (wrap64 (left - 1))).1, (mayAny x.f4 (wrap64 (deep - 1)) (wrap64 (left - 1))).2) by
  obtain ⟨op, nm, fr, to_, kids⟩ := x
  simp only [mayS])
 have HKV := Aside0.mk (kids_v x.f0)
 have HFV := Aside0.mk (fields_v 0 x.f0 x.f1 x.f2 x.f3 x.f4)
 obtain ⟨lo, hlo⟩ : ∃ v, leastB x.f0 = v := ⟨_, rfl⟩
 obtain ⟨hi, hhi⟩ : ∃ v, mostB x.f0 = v := ⟨_, rfl⟩
 obtain ⟨fb, hfb⟩ : ∃ v, fieldsB x.f0 x.f1 x.f2 x.f3 = v := ⟨_, rfl⟩
 obtain ⟨l1, hl1⟩ : ∃ v, wrap64 (left - 1) = v := ⟨_, rfl⟩
 rw [hlo, hhi] at HKV
 rw [hfb] at HFV
 rw [hlo, hhi, hfb, hl1] at HV
 have hne := Nat.ne_of_lt hL.lt
 have H0 := Aside0.mk (show Blk (((w.alloc (.cells #[.pointer (some ⟨gc, 0, none⟩)] 92)).alloc (.cells #[.int .i64 x.f0, .string x.f1, .int .i64 x.f2, .int .i64 x.f3, .slice A x.f4.length c] 40)).alloc (.cells #[.int .i64 deep] 3)) w.heap.size 92 #[.pointer (some ⟨gc, 0, none⟩)] from blk_alloc (blk1 _ _ _) _)
 have H1 := Aside0.mk (show Blk (((w.alloc (.cells #[.pointer (some ⟨gc, 0, none⟩)] 92)).alloc (.cells #[.int .i64 x.f0, .string x.f1, .int .i64 x.f2, .int .i64 x.f3, .slice A x.f4.length c] 40)).alloc (.cells #[.int .i64 deep] 3)) (w.heap.size + 1) 40 #[.int .i64 x.f0, .string x.f1, .int .i64 x.f2, .int .i64 x.f3, .slice A x.f4.length c] from blk_alloc (blk2 _ _ _) _)
 have H2 := Aside0.mk (show Blk (((w.alloc (.cells #[.pointer (some ⟨gc, 0, none⟩)] 92)).alloc (.cells #[.int .i64 x.f0, .string x.f1, .int .i64 x.f2, .int .i64 x.f3, .slice A x.f4.length c] 40)).alloc (.cells #[.int .i64 deep] 3)) (w.heap.size + 1 + 1) 3 #[.int .i64 deep] from blk3 _ _ _ _)
 have HLL := Aside0.mk (show Blk (((w.alloc (.cells #[.pointer (some ⟨gc, 0, none⟩)] 92)).alloc (.cells #[.int .i64 x.f0, .string x.f1, .int .i64 x.f2, .int .i64 x.f3, .slice A x.f4.length c] 40)).alloc (.cells #[.int .i64 deep] 3)) gc 94 #[.int .i64 left] from ((hL.alloc _).alloc _).alloc _)
 have HBB := Aside0.mk (show Below w0.heap.size w0 (((w.alloc (.cells #[.pointer (some ⟨gc, 0, none⟩)] 92)).alloc (.cells #[.int .i64 x.f0, .string x.f1, .int .i64 x.f2, .int .i64 x.f3, .slice A x.f4.length c] 40)).alloc (.cells #[.int .i64 deep] 3)) from below_alloc (below_alloc (below_alloc hb _) _) _)
 have HKP := Aside0.mk (show Kp gc w (((w.alloc (.cells #[.pointer (some ⟨gc, 0, none⟩)] 92)).alloc (.cells #[.int .i64 x.f0, .string x.f1, .int .i64 x.f2, .int .i64 x.f3, .slice A x.f4.length c] 40)).alloc (.cells #[.int .i64 deep] 3)) from Kp.of_below (below_alloc (below_alloc (below_alloc (Below.refl _ _) _) _) _) (Nat.le_of_lt hL.lt))
 have HNE := Aside0.mk (show w.heap.size ≠ gc ∧ w.heap.size + 1 ≠ gc ∧ w.heap.size + 1 + 1 ≠ gc by have := hL.lt; omega)
 have hcz := HLL.out.cell 0
 have hfz := blk_frozen HLL.out 0
 have d0 := H0.out.cell 0
 simp only [List.getElem?_toArray, List.getElem?_cons_zero] at hcz d0
 obtain ⟨r, hrr⟩ : ∃ r, mayS x deep left = r := ⟨_, rfl⟩
 rw [hrr] at HV ⊢
 clear hr hc hn ih hg hb hL hlo hhi hfb hrr hne
 have hu40 := Try.underlying40
 have hu38 := Try.underlying38
 have hu94 := Try.underlying94
 obtain ⟨g, hg⟩ : ∃ g, w.heap.size = g := ⟨_, rfl⟩
 go_enter Try.func70, Try.ntmps70
 clear hg
 go_upto_region 2 with (fail)
 obtain ⟨V, hV⟩ : ∃ V, (((w.alloc (.cells #[.pointer (some ⟨gc, 0, none⟩)] 92)).alloc (.cells #[.int .i64 x.f0, .string x.f1, .int .i64 x.f2, .int .i64 x.f3, .slice A x.f4.length c] 40)).alloc (.cells #[.int .i64 deep] 3)) = V := ⟨_, rfl⟩
 rw [hV] at H0 H1 H2 HLL HBB HKP hcz hfz d0 ⊢
 clear hV hcz hfz d0
 rw [hl1]
 obtain ⟨V1, hV⟩ : ∃ V1, V.setCell ⟨gc, 0, none⟩ (.int .i64 l1) = V1 := ⟨_, rfl⟩
 have HK1 := Aside0.mk (show Kp gc V V1 by rw [← hV]; exact Kp.set gc V _)
 have HL1 := Aside0.mk (show Blk V1 gc 94 #[.int .i64 l1] by rw [← hV]; exact blk_set HLL.out 0 _)
 rw [hV]
 have q0 := (H1.out.kp HK1.out HNE.out.2.1).cell 0
 simp only [List.getElem?_toArray, List.getElem?_cons_zero] at q0
 clear hV
 go_upto_region 3 with (go_at_call 112; refine (scope_kids.calls x.f0 lo hi _ HKV.out).mono ?_; rintro e w' ⟨rfl, hd⟩; have HD := Aside0.mk hd.below; clear hd)
 rename_i V2
 clear q0
 have hn_ := HNE.out
 have HK2 := Aside0.mk ((HKP.out.trans HK1.out).trans (Kp.of_below HD.out (Nat.le_of_lt HL1.out.lt)))
 have HL2 := Aside0.mk (HL1.out.below HD.out)
 have HB2 := Aside0.mk ((HK1.out.trans (Kp.of_below HD.out (Nat.le_of_lt HL1.out.lt))).base HBB.out HG.out)
 have HA0 := Aside0.mk (Blk.below (H0.out.kp HK1.out hn_.1) HD.out)
 have HA1 := Aside0.mk (Blk.below (H1.out.kp HK1.out hn_.2.1) HD.out)
 have HA2 := Aside0.mk (Blk.below (H2.out.kp HK1.out hn_.2.2) HD.out)
 clear hn_ HD HK1 HL1 H0 H1 H2 HLL HKP HBB HKV
 have d0 := HA0.out.cell 0
 have q0 := HA1.out.cell 0
 have q1 := HA1.out.cell 1
 have q2 := HA1.out.cell 2
 have q3 := HA1.out.cell 3
 have q4 := HA1.out.cell 4
 have d2 := HA2.out.cell 0
 have l0 := HL2.out.cell 0
 simp only [List.getElem?_toArray, List.getElem?_cons_zero, List.getElem?_cons_succ] at d0 q0 q1 q2 q3 q4 d2 l0
 have HV1 := HV.out
 clear HV
 by_cases c1 : l1 < 0
 ·have z1 : decide (l1 < 0) = true := decide_eq_true c1
  rw [if_pos c1] at HV1
  subst HV1
  clear c1
  go_wp2
  go_ret
  exact ⟨rfl, HL2.out, HK2.out⟩
 have z1 : decide (l1 < 0) = false := decide_eq_false c1
 rw [if_neg c1] at HV1
 clear c1
 by_cases c2 : deep = 0
 ·have z2 : (deep == 0) = true := beq_iff_eq.mpr c2
  rw [if_pos c2] at HV1
  subst HV1
  clear c2
  go_wp2
  go_ret
  exact ⟨rfl, HL2.out, HK2.out⟩
 have z2 : (deep == 0) = false := beq_eq_false_iff_ne.mpr c2
 rw [if_neg c2] at HV1
 clear c2
 cases fb with
 | false =>
  rw [if_pos rfl] at HV1
  subst HV1
  go_wp2_with (go_at_call 113; refine (scope_fields.calls (0 + 3) x.f0 x.f1 x.f2 x.f3 A c x.f4 false _ (Kd.C_below HR.out HB2.out) HC.out HFV.out).mono ?_; rintro e w' ⟨rfl, hb⟩; have HL3 := Aside0.mk (HL2.out.below hb); have HK3 := Aside0.mk (HK2.out.trans (Kp.of_below hb (Nat.le_of_lt HL2.out.lt))); have HB3 := Aside0.mk (below_step HB2.out hb); have e0 := HA1.out.below hb; have e4 := e0.cell 4; have e2 := HA2.out.below hb; have HE0 := Aside0.mk (HA0.out.below hb); have HE2 := Aside0.mk e2; simp only [List.getElem?_toArray, List.getElem?_cons_zero, List.getElem?_cons_succ] at e4; clear e0 e2 hb)
  go_ret
  exact ⟨rfl, HL3.out, HK3.out⟩
 | true =>
  rw [if_neg (by decide)] at HV1
  by_cases c4 : (x.f4.length : Int) < lo
  ·have z4 : decide ((x.f4.length : Int) < lo) = true := decide_eq_true c4
   rw [if_pos c4] at HV1
   subst HV1
   clear c4
   go_wp2_with (go_at_call 113; refine (scope_fields.calls (0 + 3) x.f0 x.f1 x.f2 x.f3 A c x.f4 true _ (Kd.C_below HR.out HB2.out) HC.out HFV.out).mono ?_; rintro e w' ⟨rfl, hb⟩; have HL3 := Aside0.mk (HL2.out.below hb); have HK3 := Aside0.mk (HK2.out.trans (Kp.of_below hb (Nat.le_of_lt HL2.out.lt))); have HB3 := Aside0.mk (below_step HB2.out hb); have e0 := HA1.out.below hb; have e4 := e0.cell 4; have e2 := HA2.out.below hb; have HE0 := Aside0.mk (HA0.out.below hb); have HE2 := Aside0.mk e2; simp only [List.getElem?_toArray, List.getElem?_cons_zero, List.getElem?_cons_succ] at e4; clear e0 e2 hb)
   go_ret
   exact ⟨rfl, HL3.out, HK3.out⟩
  have z4 : decide ((x.f4.length : Int) < lo) = false := decide_eq_false c4
  rw [if_neg c4] at HV1
  clear c4
  by_cases c5 : hi < (x.f4.length : Int)
  ·have z5 : decide (hi < (x.f4.length : Int)) = true := decide_eq_true c5
   rw [if_pos c5] at HV1
   subst HV1
   clear c5
   go_wp2_with (go_at_call 113; refine (scope_fields.calls (0 + 3) x.f0 x.f1 x.f2 x.f3 A c x.f4 true _ (Kd.C_below HR.out HB2.out) HC.out HFV.out).mono ?_; rintro e w' ⟨rfl, hb⟩; have HL3 := Aside0.mk (HL2.out.below hb); have HK3 := Aside0.mk (HK2.out.trans (Kp.of_below hb (Nat.le_of_lt HL2.out.lt))); have HB3 := Aside0.mk (below_step HB2.out hb); have e0 := HA1.out.below hb; have e4 := e0.cell 4; have e2 := HA2.out.below hb; have HE0 := Aside0.mk (HA0.out.below hb); have HE2 := Aside0.mk e2; simp only [List.getElem?_toArray, List.getElem?_cons_zero, List.getElem?_cons_succ] at e4; clear e0 e2 hb)
   go_ret
   exact ⟨rfl, HL3.out, HK3.out⟩
  have z5 : decide (hi < (x.f4.length : Int)) = false := decide_eq_false c5
  rw [if_neg c5] at HV1
  clear c5
  have HAY := Aside0.mk (fun W (h0 : Blk W gc 94 #[.int .i64 l1] ∧ Blk W w.heap.size 92 #[.pointer (some ⟨gc, 0, none⟩)] ∧ Blk W (w.heap.size + 1 + 1) 3 #[.int .i64 deep] ∧ Below w0.heap.size w0 W ∧ Kp gc w W) => any_may w.heap.size (w.heap.size + 1 + 1) (fun k l => (!(mayS k (wrap64 (deep - 1)) l).1, (mayS k (wrap64 (deep - 1)) l).2)) (fun l W => Blk W gc 94 #[.int .i64 l] ∧ Blk W w.heap.size 92 #[.pointer (some ⟨gc, 0, none⟩)] ∧ Blk W (w.heap.size + 1 + 1) 3 #[.int .i64 deep] ∧ Below w0.heap.size w0 W ∧ Kp gc w W) A x.f4 c w0 HR.out (fun _ _ h => h.2.2.2.1) (by
   intro k hk l W A4 c4 hi_ h1 h2
   refine (mayk_c (HIH.out k hk) gc w.heap.size (w.heap.size + 1 + 1) deep l A4 c4 w0 W h1 h2 HG.out hi_.2.2.2.1 hi_.1 hi_.2.1 hi_.2.2.1).mono ?_
   rintro e w' ⟨rfl, g1, g2⟩
   exact ⟨rfl, g1, hi_.2.1.kp g2 HNE.out.1, hi_.2.2.1.kp g2 HNE.out.2.2, g2.base hi_.2.2.2.1 HG.out, hi_.2.2.2.2.trans g2⟩) l1 W h0)
  rw [mayAny_run] at HAY
  obtain ⟨q, hq⟩ : ∃ q, mayAny x.f4 (wrap64 (deep - 1)) l1 = q := ⟨_, rfl⟩
  rw [hq] at HAY HV1
  obtain ⟨qb, ql⟩ := q
  dsimp only at HAY HV1
  subst HV1
  clear hq HIH
  go_wp2_with (first
   | (go_at_call 113; refine (scope_fields.calls (0 + 3) x.f0 x.f1 x.f2 x.f3 A c x.f4 true _ (Kd.C_below HR.out HB2.out) HC.out HFV.out).mono ?_; rintro e w' ⟨rfl, hb⟩; have HL3 := Aside0.mk (HL2.out.below hb); have HK3 := Aside0.mk (HK2.out.trans (Kp.of_below hb (Nat.le_of_lt HL2.out.lt))); have HB3 := Aside0.mk (below_step HB2.out hb); have e0 := HA1.out.below hb; have e4 := e0.cell 4; have e2 := HA2.out.below hb; have HE0 := Aside0.mk (HA0.out.below hb); have HE2 := Aside0.mk e2; simp only [List.getElem?_toArray, List.getElem?_cons_zero, List.getElem?_cons_succ] at e4; clear e0 e2 hb)
   | (go_at_call 72; refine (HAY.out _ ⟨HL3.out, HE0.out, HE2.out, HB3.out, HK3.out⟩).mono ?_; rintro e w' ⟨rfl, g1, _, _, _, g5⟩; have HL4 := Aside0.mk g1; have HK4 := Aside0.mk g5; clear g1 g5))
  go_ret
  exact ⟨rfl, HL4.out, HK4.out⟩
end Go.Proofs.Ytgdpabedlghiaaa.Scope
/- scope.Match and scope.Check, in the printed functions' form. -/
namespace Go.Proofs.Ytgdpabedlghiaaa.Scope
set_option linter.unusedVariables false
set_option linter.unusedSimpArgs false
open Go.RowKit Go.Proofs.YtgdpabedlghiaaaW.PrintWords Go.Proofs.YtgdpabedlghiaaaW.PrintLast Go.Proofs.YtgdpabedlghiaaaW.PrintMore Go.Proofs.Ytgdpabedlghiaaa.PZ
/-- May a scope be? -/
def mayB (x : S40) : Bool := (mayS x 8 24).1
set_option maxHeartbeats 2000000 in
set_option maxRecDepth 100000 in
theorem check_c (x : S40) (A : Option Addr) (c : Nat) (w : World) (hr : Kd.C k40 w A x.f4.length x.f4) (hc : x.f4.length ≤ c) :
    Calls Try.prog 28 #[.agg #[.int .i64 x.f0, .string x.f1, .int .i64 x.f2, .int .i64 x.f3, .slice A x.f4.length c]] w fun e w' => e = .returned (.int .i64 (if mayB x = true then 0 else 1)) ∧ Below w.heap.size w w' := by
  have HL := Aside0.mk (show Blk ((w.alloc (.cells #[.int .i64 x.f0, .string x.f1, .int .i64 x.f2, .int .i64 x.f3, .slice A x.f4.length c] 40)).alloc (.cells #[.int .i64 24] 94)) (w.heap.size + 1) 94 #[.int .i64 24] from blk2 _ _ _)
  have HB := Aside0.mk (show Below w.heap.size w ((w.alloc (.cells #[.int .i64 x.f0, .string x.f1, .int .i64 x.f2, .int .i64 x.f3, .slice A x.f4.length c] 40)).alloc (.cells #[.int .i64 24] 94)) from below_alloc (below_alloc (Below.refl _ _) _) _)
  have HM := Aside0.mk (may_n (SizeOf.sizeOf x + 1) x (Nat.lt_succ_self _) (w.heap.size + 1) 8 24 A c w _ hr hc (Nat.le_succ _) HB.out HL.out)
  have hu40 := Try.underlying40
  have hu94 := Try.underlying94
  unfold mayB
  obtain ⟨r, hr_⟩ : ∃ r, mayS x 8 24 = r := ⟨_, rfl⟩
  rw [hr_] at HM ⊢
  clear hr hc hr_ HL
  obtain ⟨b, l⟩ := r
  dsimp only at HM ⊢
  cases b
  all_goals
    go_enter Try.func28, Try.ntmps28
    go_wp2_with (go_at_call 70; refine HM.out.mono ?_; rintro e w' ⟨rfl, _, hk⟩; have HF := Aside0.mk (hk.base HB.out (Nat.le_succ _)); clear hk)
    go_ret
    exact ⟨rfl, HF.out⟩
end Go.Proofs.Ytgdpabedlghiaaa.Scope
namespace Go.Proofs.Ytgdpabedlghiaaa.PZ
set_option linter.unusedVariables false
open Go.RowKit Go.Proofs.YtgdpabedlghiaaaW.PrintWords
def scope_Check.f (a0_0 : Int) (a0_1 : ByteArray) (a0_2 : Int) (a0_3 : Int) (l0_4 : List S40) : Option Int := some (if Scope.mayB ⟨a0_0, a0_1, a0_2, a0_3, l0_4⟩ = true then 0 else 1)
theorem scope_Check.calls (a0_0 : Int) (a0_1 : ByteArray) (a0_2 : Int) (a0_3 : Int) (A0_4 : Option Addr) (c0_4 : Nat) (l0_4 : List S40) (r : Int) (w : World) (hr0_4 : Kd.C k40 w A0_4 l0_4.length l0_4) (hc0_4 : l0_4.length ≤ c0_4) (h : scope_Check.f a0_0 a0_1 a0_2 a0_3 l0_4 = some r) :
    Calls Try.prog 28 #[.agg #[.int .i64 a0_0, .string a0_1, .int .i64 a0_2, .int .i64 a0_3, .slice A0_4 l0_4.length c0_4]] w fun e w' => e = .returned (.int .i64 r) ∧ Below w.heap.size w w' := by
  obtain rfl := Option.some.inj h
  exact Scope.check_c ⟨a0_0, a0_1, a0_2, a0_3, l0_4⟩ A0_4 c0_4 w hr0_4 hc0_4
def scope_Match.f (a0_0 : Int) (a0_1 : ByteArray) (a0_2 : Int) (a0_3 : Int) (l0_4 : List S40) (a1_0 a1_1 a1_2 a1_3 : ByteArray) (a1_4 a1_5 : Int) : Option Bool := some (Scope.matchB a1_1 a1_2 a1_3 a1_4 ⟨a0_0, a0_1, a0_2, a0_3, l0_4⟩)
theorem scope_Match.calls (a0_0 : Int) (a0_1 : ByteArray) (a0_2 : Int) (a0_3 : Int) (A0_4 : Option Addr) (c0_4 : Nat) (l0_4 : List S40) (a1_0 : ByteArray) (a1_1 : ByteArray) (a1_2 : ByteArray) (a1_3 : ByteArray) (a1_4 : Int) (a1_5 : Int) (r : Bool) (w : World) (hr0_4 : Kd.C k40 w A0_4 l0_4.length l0_4) (hc0_4 : l0_4.length ≤ c0_4) (h : scope_Match.f a0_0 a0_1 a0_2 a0_3 l0_4 a1_0 a1_1 a1_2 a1_3 a1_4 a1_5 = some r) :
    Calls Try.prog 29 #[.agg #[.int .i64 a0_0, .string a0_1, .int .i64 a0_2, .int .i64 a0_3, .slice A0_4 l0_4.length c0_4], .agg #[.string a1_0, .string a1_1, .string a1_2, .string a1_3, .int .i64 a1_4, .int .i64 a1_5]] w fun e w' => e = .returned (.bool r) ∧ Below w.heap.size w w' := by
  obtain rfl := Option.some.inj h
  exact Scope.match_n a1_0 a1_1 a1_2 a1_3 a1_4 a1_5 _ ⟨a0_0, a0_1, a0_2, a0_3, l0_4⟩ (Nat.lt_succ_self _) A0_4 c0_4 w hr0_4 hc0_4
end Go.Proofs.Ytgdpabedlghiaaa.PZ
-- printed for this claim by a program (pall.sh)
-- mended by fixpz.py
namespace Go.Proofs.Ytgdpabedlghiaaa.PZ
open Go.RowKit Go.Proofs.YtgdpabedlghiaaaW.PrintWords Go.Proofs.YtgdpabedlghiaaaW.PrintLast Go.Proofs.YtgdpabedlghiaaaW.PrintMore
attribute [local go_sem] max2_int min2_int max_two min_two max_three min_three max_four min_four   -- for this text's walks alone
set_option linter.unusedVariables false
set_option linter.unusedSimpArgs false

/-! ### hanaperref20_small: function 66 -/
mutual
def hanaperref20_small.j0 : Nat → Int → Int → Bool → Int → ByteArray → Int → Int → List (S40) → Option (Int)
 | 0, _, _, _, _, _, _, _, _ => none
 | k + 1, x1, x2, x26, x102000, x102001, x102002, x102003, x102004 => if x26 = true then (some (-1)) else (hanaperref20_small.l0 k (wrap64 (x1 - 1)) x2 0 x102000 x102001 x102002 x102003 x102004)
def hanaperref20_small.l0 : Nat → Int → Int → Int → Int → ByteArray → Int → Int → List (S40) → Option (Int)
 | 0, _, _, _, _, _, _, _, _ => none
 | k + 1, x1, x2, x7, x102000, x102001, x102002, x102003, x102004 => if x7 < (x102004.length : Int) then (if x1 ≥ 0 then (if 0 ≤ x7 then ((hanaperref20_small.f k ((rd_T40 x102004 x7).f0) ((rd_T40 x102004 x7).f1) ((rd_T40 x102004 x7).f2) ((rd_T40 x102004 x7).f3) ((rd_T40 x102004 x7).f4) x1 (wrap64 (x2 - 1))).bind fun t103 => (hanaperref20_small.l0 k t103 x2 (wrap64 (x7 + 1)) x102000 x102001 x102002 x102003 x102004)) else (none)) else (some x1)) else (some x1)
def hanaperref20_small.f : Nat → Int → ByteArray → Int → Int → List (S40) → Int → Int → Option (Int)
 | 0, _, _, _, _, _, _, _ => none
 | k + 1, a0_0, a0_1, a0_2, a0_3, l0_4, a1, a2 => if a1 < 1 then (hanaperref20_small.j0 k a1 a2 true a0_0 a0_1 a0_2 a0_3 l0_4) else (if a2 < 1 then (hanaperref20_small.j0 k a1 a2 true a0_0 a0_1 a0_2 a0_3 l0_4) else (if (l0_4.length : Int) > a1 then (hanaperref20_small.j0 k a1 a2 true a0_0 a0_1 a0_2 a0_3 l0_4) else (hanaperref20_small.j0 k a1 a2 (decide ((a0_1.size : Int) > 100)) a0_0 a0_1 a0_2 a0_3 l0_4)))
end
set_option maxHeartbeats 8000000 in
set_option maxRecDepth 100000 in
theorem hanaperref20_small.calls (k : Nat) : ∀ (a0_0 : Int) (a0_1 : ByteArray) (a0_2 : Int) (a0_3 : Int) (A0_4 : Option Addr) (c0_4 : Nat) (l0_4 : List (S40)) (a1 : Int) (a2 : Int) (r : Int) (w : World) (hr0_4 : Kd.C k40 w A0_4 l0_4.length l0_4) (hc0_4 : l0_4.length ≤ c0_4) (h : hanaperref20_small.f k a0_0 a0_1 a0_2 a0_3 l0_4 a1 a2 = some r),
  Calls Try.prog 66 #[.agg #[.int .i64 a0_0, .string a0_1, .int .i64 a0_2, .int .i64 a0_3, .slice A0_4 l0_4.length c0_4], .int .i64 a1, .int .i64 a2] w fun e w' => e = .returned (.int .i64 r) ∧ Below w.heap.size w w' := by
 induction k using Nat.strongRecOn with
 | _ k ih =>
 intro a0_0 a0_1 a0_2 a0_3 A0_4 c0_4 l0_4 a1 a2 r w hr0_4 hc0_4 h
 cases k with
 | zero => exact absurd h (by simp [hanaperref20_small.f])
 | succ k =>
 simp only [hanaperref20_small.f] at h
 have hu40 := Try.underlying40
 have HR0_4 := Aside0.mk hr0_4
 have HC0_4 := Aside0.mk hc0_4
 clear hr0_4 hc0_4
 have HB := Aside0.mk (Below.refl w.heap.size w)
 have H : (if a1 < 1 then (hanaperref20_small.j0 k a1 a2 true a0_0 a0_1 a0_2 a0_3 l0_4) else (if a2 < 1 then (hanaperref20_small.j0 k a1 a2 true a0_0 a0_1 a0_2 a0_3 l0_4) else (if (l0_4.length : Int) > a1 then (hanaperref20_small.j0 k a1 a2 true a0_0 a0_1 a0_2 a0_3 l0_4) else (hanaperref20_small.j0 k a1 a2 (decide ((a0_1.size : Int) > 100)) a0_0 a0_1 a0_2 a0_3 l0_4)))) = some r := h
 clear h
 have HC4 := Aside0.mk H
 clear H
 go_enter Try.func66, Try.ntmps66
 go_upto_region 1 with (first | ((with_reducible refine gate_dst (N := 3) rfl ?_); (try (refine gate_guard (by rfl) ?_; dsimp only)); refine box_event ?hg (N := 3) ?hd (cs := #[.int .i64 a0_0, .string a0_1, .int .i64 a0_2, .int .i64 a0_3, .slice A0_4 l0_4.length c0_4]) (t := 40) ?hr ?_; (case hd => rfl); (case hg => rfl); (case hr => first | (go_simp; done) | (go_simp; rfl)); intro gb101 hg w5 hbox hb; have n0_ := Aside0.mk (below_step (by repeat (first | (with_reducible first | exact HB.out | apply below_alloc | apply pw_below_drewN | apply below_drew1) | exact HB.out)) hb); have n1_ := Aside0.mk (hbox); have n2_ := Aside0.mk ((by rw [hg]; exact (below_size (by repeat (first | (with_reducible first | exact HB.out | apply below_alloc | apply pw_below_drewN | apply below_drew1) | exact HB.out))) : w.heap.size ≤ gb101)); have n3_ := Aside0.mk ((by rw [hg]; exact (below_size (by repeat (first | (with_reducible first | exact HB.out | apply below_alloc | apply pw_below_drewN | apply below_drew1) | exact HB.out))) : w.heap.size ≤ gb101)); clear HB; have HB := n0_; have BK101 := n1_; have GW101 := n2_; have GE101 := n3_; clear n0_ n1_ n2_ n3_; clear hb hbox hg))
 (try simp only [Act.put, List.setIfInBounds_toArray, List.set_cons_zero, List.set_cons_succ])
 go_cut [26] (fun v26 wc => ∃ (kq : Nat) (x26_3 : Bool), v26 = .bool x26_3 ∧ Aside0 (hanaperref20_small.j0 kq a1 a2 x26_3 a0_0 a0_1 a0_2 a0_3 l0_4 = some r) ∧ Aside0 (kq ≤ k) ∧ Aside0 (wc.heap[gb101]? = some (.cells #[.int .i64 a0_0, .string a0_1, .int .i64 a0_2, .int .i64 a0_3, (.slice A0_4 l0_4.length c0_4)] 40 (0, 0))) ∧ Aside0 (Below w.heap.size w wc))
 case first =>
  have H := HC4.out
  clear HC4
  by_cases c6 : a1 < 1
  ·rw [if_pos c6] at H
   have c6b0 : decide (a1 < 1) = true := decide_eq_true c6
   clear c6
   (first | rw [c6b0] | (simp only [i64_w, i32_w]; rw [c6b0]) | skip)
   have H' := Aside0.mk H
   clear H
   go_wp2
   go_meet
   case rel => exact ⟨_, (true), (by first | rfl | (simp; done) | (simp [*]; done)), H', ⟨by first | omega | exact Nat.le_refl _⟩, ⟨by (with_reducible repeat (first | refine blk_drewN ?_ _ | refine blk_drew ?_ | refine blk_alloc ?_ _)); exact BK101.out⟩, ⟨by repeat (first | (with_reducible first | exact HB.out | apply below_alloc | apply pw_below_drewN | apply below_drew1 | refine below_set ?_ GE101.out) | exact HB.out)⟩⟩
  ·rw [if_neg c6] at H
   have c6b0 : decide (a1 < 1) = false := decide_eq_false c6
   clear c6
   (first | rw [c6b0] | (simp only [i64_w, i32_w]; rw [c6b0]) | skip)
   by_cases c7 : a2 < 1
   ·rw [if_pos c7] at H
    have c7b0 : decide (a2 < 1) = true := decide_eq_true c7
    clear c7
    have H' := Aside0.mk H
    clear H
    go_wp2
    go_meet
    case rel => exact ⟨_, (true), (by first | rfl | (simp; done) | (simp [*]; done)), H', ⟨by first | omega | exact Nat.le_refl _⟩, ⟨by (with_reducible repeat (first | refine blk_drewN ?_ _ | refine blk_drew ?_ | refine blk_alloc ?_ _)); exact BK101.out⟩, ⟨by repeat (first | (with_reducible first | exact HB.out | apply below_alloc | apply pw_below_drewN | apply below_drew1 | refine below_set ?_ GE101.out) | exact HB.out)⟩⟩
   ·rw [if_neg c7] at H
    have c7b0 : decide (a2 < 1) = false := decide_eq_false c7
    clear c7
    by_cases c8 : (l0_4.length : Int) > a1
    ·rw [if_pos c8] at H
     have c8b0 : decide (a1 < (l0_4.length : Int)) = true := decide_eq_true c8
     clear c8
     have H' := Aside0.mk H
     clear H
     have hcz9_0 : w5.cell? ⟨gb101, 0, none⟩ = some (.int .i64 a0_0) := (blk_cell BK101.out 0).trans rfl
     have hcz9_1 : w5.cell? ⟨gb101, 1, none⟩ = some (.string a0_1) := (blk_cell BK101.out 1).trans rfl
     have hcz9_2 : w5.cell? ⟨gb101, 2, none⟩ = some (.int .i64 a0_2) := (blk_cell BK101.out 2).trans rfl
     have hcz9_3 : w5.cell? ⟨gb101, 3, none⟩ = some (.int .i64 a0_3) := (blk_cell BK101.out 3).trans rfl
     have hcz9_4 : w5.cell? ⟨gb101, 4, none⟩ = some (.slice A0_4 l0_4.length c0_4) := (blk_cell BK101.out 4).trans rfl
     have hfz9_0 := blk_frozen BK101.out 0
     have hfz9_1 := blk_frozen BK101.out 1
     have hfz9_2 := blk_frozen BK101.out 2
     have hfz9_3 := blk_frozen BK101.out 3
     have hfz9_4 := blk_frozen BK101.out 4
     go_wp2
     go_meet
     case rel => exact ⟨_, (true), (by first | rfl | (simp; done) | (simp [*]; done)), H', ⟨by first | omega | exact Nat.le_refl _⟩, ⟨by (with_reducible repeat (first | refine blk_drewN ?_ _ | refine blk_drew ?_ | refine blk_alloc ?_ _)); exact BK101.out⟩, ⟨by repeat (first | (with_reducible first | exact HB.out | apply below_alloc | apply pw_below_drewN | apply below_drew1 | refine below_set ?_ GE101.out) | exact HB.out)⟩⟩
    ·rw [if_neg c8] at H
     have c8b0 : decide (a1 < (l0_4.length : Int)) = false := decide_eq_false c8
     clear c8
     have H' := Aside0.mk H
     clear H
     have hcz10_0 : w5.cell? ⟨gb101, 0, none⟩ = some (.int .i64 a0_0) := (blk_cell BK101.out 0).trans rfl
     have hcz10_1 : w5.cell? ⟨gb101, 1, none⟩ = some (.string a0_1) := (blk_cell BK101.out 1).trans rfl
     have hcz10_2 : w5.cell? ⟨gb101, 2, none⟩ = some (.int .i64 a0_2) := (blk_cell BK101.out 2).trans rfl
     have hcz10_3 : w5.cell? ⟨gb101, 3, none⟩ = some (.int .i64 a0_3) := (blk_cell BK101.out 3).trans rfl
     have hcz10_4 : w5.cell? ⟨gb101, 4, none⟩ = some (.slice A0_4 l0_4.length c0_4) := (blk_cell BK101.out 4).trans rfl
     have hfz10_0 := blk_frozen BK101.out 0
     have hfz10_1 := blk_frozen BK101.out 1
     have hfz10_2 := blk_frozen BK101.out 2
     have hfz10_3 := blk_frozen BK101.out 3
     have hfz10_4 := blk_frozen BK101.out 4
     go_wp2
     go_meet
     case rel => exact ⟨_, (decide ((a0_1.size : Int) > 100)), (by first | rfl | (simp; done) | (simp [*]; done)), H', ⟨by first | omega | exact Nat.le_refl _⟩, ⟨by (with_reducible repeat (first | refine blk_drewN ?_ _ | refine blk_drew ?_ | refine blk_alloc ?_ _)); exact BK101.out⟩, ⟨by repeat (first | (with_reducible first | exact HB.out | apply below_alloc | apply pw_below_drewN | apply below_drew1 | refine below_set ?_ GE101.out) | exact HB.out)⟩⟩
 case rest =>
  clear HC4
  (try clear p2);(try clear c6);(try clear c6b0);(try clear c7);(try clear c7b0);(try clear c8);(try clear c8b0);(try clear hcz10_0);(try clear hcz10_1);(try clear hcz10_2);(try clear hcz10_3);(try clear hcz10_4);(try clear hcz9_0);(try clear hcz9_1);(try clear hcz9_2);(try clear hcz9_3);(try clear hcz9_4);(try clear hfz10_0);(try clear hfz10_1);(try clear hfz10_2);(try clear hfz10_3);(try clear hfz10_4);(try clear hfz9_0);(try clear hfz9_1);(try clear hfz9_2);(try clear hfz9_3);(try clear hfz9_4)
  obtain ⟨kq, x26_3, rfl, HA, HJ3, BK101, HB⟩ := hcut
  cases kq with
  | zero => exact absurd HA.out (by simp [hanaperref20_small.j0])
  | succ kj3 =>
   have H := HA.out
   clear HA
   simp only [hanaperref20_small.j0] at H
   by_cases c11 : x26_3 = true
   ·subst c11
    have H1 : (some (-1)) = some r := by rw [if_pos rfl] at H; exact H
    clear H
    have H := H1
    clear H1
    obtain rfl := Option.some.inj H
    go_wp2
    go_ret
    exact ⟨by first | rfl | (simp [errW_none, errW_some] <;> rfl) | (simp [*, errW_none, errW_some] <;> rfl), by repeat (first | (with_reducible first | exact HB.out | apply below_alloc | apply pw_below_drewN | apply below_drew1 | refine below_set ?_ GE101.out) | exact HB.out)⟩
   ·replace c11 := Bool.eq_false_iff.mpr c11
    subst c11
    have H1 : (hanaperref20_small.l0 kj3 (wrap64 (a1 - 1)) a2 0 a0_0 a0_1 a0_2 a0_3 l0_4) = some r := by rw [if_neg (show ¬ (false = true) by decide)] at H; exact H
    clear H
    have H := H1
    clear H1
    have H' := Aside0.mk H
    clear H
    go_wp2
    go_loopg [1, 7] kj3 (fun kq v1 v7 w' => ∃ (x1_2 : Int) (x7_2 : Int), v1 = .int .i64 x1_2 ∧ v7 = .int .i64 x7_2 ∧ Aside0 (hanaperref20_small.l0 kq x1_2 a2 x7_2 a0_0 a0_1 a0_2 a0_3 l0_4 = some r) ∧ Aside0 (kq ≤ kj3) ∧ Aside0 (w'.heap[gb101]? = some (.cells #[.int .i64 a0_0, .string a0_1, .int .i64 a0_2, .int .i64 a0_3, (.slice A0_4 l0_4.length c0_4)] 40 (0, 0))) ∧ Aside0 (Below w.heap.size w w'))
    case atStart => exact ⟨(wrap64 (a1 - 1)), (0), (by first | rfl | (simp; done) | (simp [*]; done)), (by first | rfl | (simp; done) | (simp [*]; done)), H', ⟨Nat.le_refl _⟩, ⟨by (with_reducible repeat (first | refine blk_drewN ?_ _ | refine blk_drew ?_ | refine blk_alloc ?_ _)); exact BK101.out⟩, ⟨by repeat (first | (with_reducible first | exact HB.out | apply below_alloc | apply pw_below_drewN | apply below_drew1 | refine below_set ?_ GE101.out) | exact HB.out)⟩⟩
    case round =>
     clear H'
     (try clear c1);(try clear p2);(try clear c6);(try clear c6b0);(try clear p6);(try clear c7);(try clear c7b0);(try clear c8);(try clear c8b0);(try clear c11);(try clear hcz10_0);(try clear hcz10_1);(try clear hcz10_2);(try clear hcz10_3);(try clear hcz10_4);(try clear hcz9_0);(try clear hcz9_1);(try clear hcz9_2);(try clear hcz9_3);(try clear hcz9_4);(try clear hfz10_0);(try clear hfz10_1);(try clear hfz10_2);(try clear hfz10_3);(try clear hfz10_4);(try clear hfz9_0);(try clear hfz9_1);(try clear hfz9_2);(try clear hfz9_3);(try clear hfz9_4);(try clear p2)
     obtain ⟨x1_2, x7_2, rfl, rfl, HA, HK2, BK101, HB⟩ := hrel
     cases gk with
     | zero => exact absurd HA.out (by simp [hanaperref20_small.l0])
     | succ k2 =>
      have H := HA.out
      clear HA
      simp only [hanaperref20_small.l0] at H
      by_cases c12 : x7_2 < (l0_4.length : Int)
      ·rw [if_pos c12] at H
       have c12b0 : decide (x7_2 < (l0_4.length : Int)) = true := decide_eq_true c12
       clear c12
       by_cases c13 : x1_2 ≥ 0
       ·rw [if_pos c13] at H
        have c13b0 : decide (0 ≤ x1_2) = true := decide_eq_true c13
        clear c13
        by_cases c14 : 0 ≤ x7_2
        ·rw [if_pos c14] at H
         have c14b0 : decide (0 ≤ x7_2) = true := decide_eq_true c14
         clear c14
         replace H := Option.bind_eq_some_iff.mp H
         obtain ⟨t103, A150, H⟩ := H
         replace H : (hanaperref20_small.l0 k2 t103 a2 (wrap64 (x7_2 + 1)) a0_0 a0_1 a0_2 a0_3 l0_4) = some r := H
         have A15 := Aside0.mk A150
         clear A150
         have H' := Aside0.mk H
         clear H
         have hcz16_0 : wr.cell? ⟨gb101, 0, none⟩ = some (.int .i64 a0_0) := (blk_cell BK101.out 0).trans rfl
         have hcz16_1 : wr.cell? ⟨gb101, 1, none⟩ = some (.string a0_1) := (blk_cell BK101.out 1).trans rfl
         have hcz16_2 : wr.cell? ⟨gb101, 2, none⟩ = some (.int .i64 a0_2) := (blk_cell BK101.out 2).trans rfl
         have hcz16_3 : wr.cell? ⟨gb101, 3, none⟩ = some (.int .i64 a0_3) := (blk_cell BK101.out 3).trans rfl
         have hcz16_4 : wr.cell? ⟨gb101, 4, none⟩ = some (.slice A0_4 l0_4.length c0_4) := (blk_cell BK101.out 4).trans rfl
         have hfz16_0 := blk_frozen BK101.out 0
         have hfz16_1 := blk_frozen BK101.out 1
         have hfz16_2 := blk_frozen BK101.out 2
         have hfz16_3 := blk_frozen BK101.out 3
         have hfz16_4 := blk_frozen BK101.out 4
         have p102 : 0 ≤ (x7_2 : Int) := of_decide_eq_true (by first | (with_reducible assumption) | assumption)
         have q102 : x7_2 < (l0_4.length : Int) := of_decide_eq_true (by first | (with_reducible assumption) | assumption)
         obtain ⟨ad102, A102_4, c102_4, e102, hx102_0, hx102_1, hx102_2, hx102_3, hx102_4, hl102_4, hi102_4⟩ := at_T40 HR0_4.out x7_2 p102 q102
         cases e102
         replace hx102_0 := (HB.out.cell (World.block_lt_of_cell? w _ hx102_0)).trans hx102_0
         replace hx102_1 := (HB.out.cell (World.block_lt_of_cell? w _ hx102_1)).trans hx102_1
         replace hx102_2 := (HB.out.cell (World.block_lt_of_cell? w _ hx102_2)).trans hx102_2
         replace hx102_3 := (HB.out.cell (World.block_lt_of_cell? w _ hx102_3)).trans hx102_3
         replace hx102_4 := (HB.out.cell (World.block_lt_of_cell? w _ hx102_4)).trans hx102_4
         have HR102_4 := Aside0.mk hi102_4
         have HC102_4 := Aside0.mk hl102_4
         clear hi102_4 hl102_4
         replace p102 := eq_true p102
         replace q102 := eq_true q102
         go_wp2_with (first | ((with_reducible refine gate_callee (f := 66) rfl ?_); refine goesL_ (some 48) rfl rfl Try.func66 (by kernel_rfl) rfl #[.agg #[.int .i64 ((rd_T40 l0_4 x7_2).f0), .string ((rd_T40 l0_4 x7_2).f1), .int .i64 ((rd_T40 l0_4 x7_2).f2), .int .i64 ((rd_T40 l0_4 x7_2).f3), .slice A102_4 ((rd_T40 l0_4 x7_2).f4).length c102_4], .int .i64 x1_2, .int .i64 (wrap64 (a2 - 1))] rfl (by (try simp only [List.map_toArray, List.map_cons, List.map_nil]); first | done | rfl | (simp only [List.length_drop, List.length_take]; rfl)) ?_; (with_reducible refine (ih k2 (by have := HJ3.out; have := HK2.out; omega) ((rd_T40 l0_4 x7_2).f0) ((rd_T40 l0_4 x7_2).f1) ((rd_T40 l0_4 x7_2).f2) ((rd_T40 l0_4 x7_2).f3) _ _ ((rd_T40 l0_4 x7_2).f4) x1_2 (wrap64 (a2 - 1)) t103 _ ?side1 ?side2 A15.out).mono ?_); (case side1 => repeat (first | exact (Kd.C_below HR102_4.out HB.out) | (with_reducible refine Kd.C_alloc ?_ _) | (with_reducible refine Kd.C_drewN ?_ _) | (with_reducible refine Kd.C_drew ?_))); (case side2 => exact HC102_4.out); rintro e w17 ⟨rfl, hb⟩; refine ⟨_, rfl, ?_⟩; have n0_ := Aside0.mk (blk_below (g := gb101) (o := .cells #[.int .i64 a0_0, .string a0_1, .int .i64 a0_2, .int .i64 a0_3, .slice (some ad102) l0_4.length c0_4] 40 (0, 0)) (by (with_reducible repeat (first | refine blk_drewN ?_ _ | refine blk_drew ?_ | refine blk_alloc ?_ _)); exact BK101.out) hb); have n1_ := Aside0.mk (below_step (by repeat (first | (with_reducible first | exact HB.out | apply below_alloc | apply pw_below_drewN | apply below_drew1 | refine below_set ?_ GE101.out) | exact HB.out)) hb); clear BK101; clear HB; have BK101 := n0_; have HB := n1_; clear n0_ n1_; (try clear hb); (try clear hb2); (try clear hk); (try clear hi)))
         go_roundg k2
         case measure => have := HJ3.out; have := HK2.out; omega
         case rel => exact ⟨(t103), (wrap64 (x7_2 + 1)), (by first | rfl | (simp; done) | (simp [*]; done)), (by first | rfl | (simp; done) | (simp [*]; done)), H', ⟨by have := HJ3.out; have := HK2.out; omega⟩, ⟨by (with_reducible repeat (first | refine blk_drewN ?_ _ | refine blk_drew ?_ | refine blk_alloc ?_ _)); exact BK101.out⟩, ⟨by repeat (first | (with_reducible first | exact HB.out | apply below_alloc | apply pw_below_drewN | apply below_drew1 | refine below_set ?_ GE101.out) | exact HB.out)⟩⟩
        ·rw [if_neg c14] at H
         exact absurd H (by simp)
       ·rw [if_neg c13] at H
        have c13b0 : decide (0 ≤ x1_2) = false := decide_eq_false c13
        clear c13
        obtain rfl := Option.some.inj H
        have hcz18_0 : wr.cell? ⟨gb101, 0, none⟩ = some (.int .i64 a0_0) := (blk_cell BK101.out 0).trans rfl
        have hcz18_1 : wr.cell? ⟨gb101, 1, none⟩ = some (.string a0_1) := (blk_cell BK101.out 1).trans rfl
        have hcz18_2 : wr.cell? ⟨gb101, 2, none⟩ = some (.int .i64 a0_2) := (blk_cell BK101.out 2).trans rfl
        have hcz18_3 : wr.cell? ⟨gb101, 3, none⟩ = some (.int .i64 a0_3) := (blk_cell BK101.out 3).trans rfl
        have hcz18_4 : wr.cell? ⟨gb101, 4, none⟩ = some (.slice A0_4 l0_4.length c0_4) := (blk_cell BK101.out 4).trans rfl
        have hfz18_0 := blk_frozen BK101.out 0
        have hfz18_1 := blk_frozen BK101.out 1
        have hfz18_2 := blk_frozen BK101.out 2
        have hfz18_3 := blk_frozen BK101.out 3
        have hfz18_4 := blk_frozen BK101.out 4
        go_wp2
        go_ret
        exact ⟨by first | rfl | (simp [errW_none, errW_some] <;> rfl) | (simp [*, errW_none, errW_some] <;> rfl), by repeat (first | (with_reducible first | exact HB.out | apply below_alloc | apply pw_below_drewN | apply below_drew1 | refine below_set ?_ GE101.out) | exact HB.out)⟩
      ·rw [if_neg c12] at H
       have c12b0 : decide (x7_2 < (l0_4.length : Int)) = false := decide_eq_false c12
       clear c12
       obtain rfl := Option.some.inj H
       have hcz19_0 : wr.cell? ⟨gb101, 0, none⟩ = some (.int .i64 a0_0) := (blk_cell BK101.out 0).trans rfl
       have hcz19_1 : wr.cell? ⟨gb101, 1, none⟩ = some (.string a0_1) := (blk_cell BK101.out 1).trans rfl
       have hcz19_2 : wr.cell? ⟨gb101, 2, none⟩ = some (.int .i64 a0_2) := (blk_cell BK101.out 2).trans rfl
       have hcz19_3 : wr.cell? ⟨gb101, 3, none⟩ = some (.int .i64 a0_3) := (blk_cell BK101.out 3).trans rfl
       have hcz19_4 : wr.cell? ⟨gb101, 4, none⟩ = some (.slice A0_4 l0_4.length c0_4) := (blk_cell BK101.out 4).trans rfl
       have hfz19_0 := blk_frozen BK101.out 0
       have hfz19_1 := blk_frozen BK101.out 1
       have hfz19_2 := blk_frozen BK101.out 2
       have hfz19_3 := blk_frozen BK101.out 3
       have hfz19_4 := blk_frozen BK101.out 4
       go_wp2
       go_ret
       exact ⟨by first | rfl | (simp [errW_none, errW_some] <;> rfl) | (simp [*, errW_none, errW_some] <;> rfl), by repeat (first | (with_reducible first | exact HB.out | apply below_alloc | apply pw_below_drewN | apply below_drew1 | refine below_set ?_ GE101.out) | exact HB.out)⟩

end Go.Proofs.Ytgdpabedlghiaaa.PZ
-- printed for this claim by a program (pall.sh)
-- mended by fixpz.py
namespace Go.Proofs.Ytgdpabedlghiaaa.PZ
open Go.RowKit Go.Proofs.YtgdpabedlghiaaaW.PrintWords Go.Proofs.YtgdpabedlghiaaaW.PrintLast Go.Proofs.YtgdpabedlghiaaaW.PrintMore
attribute [local go_sem] max2_int min2_int max_two min_two max_three min_three max_four min_four   -- for this text's walks alone
set_option linter.unusedVariables false
set_option linter.unusedSimpArgs false

/-! ### hanaperref20_Small: function 23 -/
def hanaperref20_Small.f (k : Nat) (a0_0 : Int) (a0_1 : ByteArray) (a0_2 : Int) (a0_3 : Int) (l0_4 : List (S40)) : Option (Bool) := (hanaperref20_small.f k a0_0 a0_1 a0_2 a0_3 l0_4 60 30).bind fun t102 => (some (decide (t102 ≥ 0)))
set_option maxHeartbeats 8000000 in
set_option maxRecDepth 100000 in
theorem hanaperref20_Small.calls (k : Nat) (a0_0 : Int) (a0_1 : ByteArray) (a0_2 : Int) (a0_3 : Int) (A0_4 : Option Addr) (c0_4 : Nat) (l0_4 : List (S40)) (r : Bool) (w : World) (hr0_4 : Kd.C k40 w A0_4 l0_4.length l0_4) (hc0_4 : l0_4.length ≤ c0_4) (h : hanaperref20_Small.f k a0_0 a0_1 a0_2 a0_3 l0_4 = some r) :
  Calls Try.prog 23 #[.agg #[.int .i64 a0_0, .string a0_1, .int .i64 a0_2, .int .i64 a0_3, .slice A0_4 l0_4.length c0_4]] w fun e w' => e = .returned (.bool r) ∧ Below w.heap.size w w' := by
 have hu40 := Try.underlying40
 have HR0_4 := Aside0.mk hr0_4
 have HC0_4 := Aside0.mk hc0_4
 clear hr0_4 hc0_4
 have HB := Aside0.mk (Below.refl w.heap.size w)
 have H : ((hanaperref20_small.f k a0_0 a0_1 a0_2 a0_3 l0_4 60 30).bind fun t102 => (some (decide (t102 ≥ 0)))) = some r := h
 clear h
 replace H := Option.bind_eq_some_iff.mp H
 obtain ⟨t102, A20, H⟩ := H
 replace H : (some (decide (t102 ≥ 0))) = some r := H
 have A2 := Aside0.mk A20
 clear A20
 obtain rfl := Option.some.inj H
 go_enter Try.func23, Try.ntmps23
 go_wp2_with (first | ((with_reducible refine gate_dst (N := 1) rfl ?_); refine box_event ?hg (N := 1) ?hd (cs := #[.int .i64 a0_0, .string a0_1, .int .i64 a0_2, .int .i64 a0_3, .slice A0_4 l0_4.length c0_4]) (t := 40) ?hr ?_; (case hd => rfl); (case hg => rfl); (case hr => first | (go_simp; done) | (go_simp; rfl)); intro gb101 hg w3 hbox hb; have n0_ := Aside0.mk (below_step (by repeat (first | (with_reducible first | exact HB.out | apply below_alloc | apply pw_below_drewN | apply below_drew1) | exact HB.out)) hb); have n1_ := Aside0.mk (hbox); have n2_ := Aside0.mk ((by rw [hg]; exact (below_size (by repeat (first | (with_reducible first | exact HB.out | apply below_alloc | apply pw_below_drewN | apply below_drew1) | exact HB.out))) : w.heap.size ≤ gb101)); have n3_ := Aside0.mk ((by rw [hg]; exact (below_size (by repeat (first | (with_reducible first | exact HB.out | apply below_alloc | apply pw_below_drewN | apply below_drew1) | exact HB.out))) : w.heap.size ≤ gb101)); clear HB; have HB := n0_; have BK101 := n1_; have GW101 := n2_; have GE101 := n3_; clear n0_ n1_ n2_ n3_; clear hb hbox hg; have hcz4_0 : w3.cell? ⟨gb101, 0, none⟩ = some (.int .i64 a0_0) := (blk_cell BK101.out 0).trans rfl; have hcz4_1 : w3.cell? ⟨gb101, 1, none⟩ = some (.string a0_1) := (blk_cell BK101.out 1).trans rfl; have hcz4_2 : w3.cell? ⟨gb101, 2, none⟩ = some (.int .i64 a0_2) := (blk_cell BK101.out 2).trans rfl; have hcz4_3 : w3.cell? ⟨gb101, 3, none⟩ = some (.int .i64 a0_3) := (blk_cell BK101.out 3).trans rfl; have hcz4_4 : w3.cell? ⟨gb101, 4, none⟩ = some (.slice A0_4 l0_4.length c0_4) := (blk_cell BK101.out 4).trans rfl; have hfz4_0 := blk_frozen BK101.out 0; have hfz4_1 := blk_frozen BK101.out 1; have hfz4_2 := blk_frozen BK101.out 2; have hfz4_3 := blk_frozen BK101.out 3; have hfz4_4 := blk_frozen BK101.out 4) | ((with_reducible refine gate_callee (f := 66) rfl ?_); refine goesL_ (some 4) rfl rfl Try.func66 (by kernel_rfl) rfl #[.agg #[.int .i64 a0_0, .string a0_1, .int .i64 a0_2, .int .i64 a0_3, .slice A0_4 l0_4.length c0_4], .int .i64 60, .int .i64 30] rfl (by (try simp only [List.map_toArray, List.map_cons, List.map_nil]); first | done | rfl | (simp only [List.length_drop, List.length_take]; rfl)) ?_; (with_reducible refine (hanaperref20_small.calls k a0_0 a0_1 a0_2 a0_3 _ _ l0_4 60 30 t102 _ ?side1 ?side2 A2.out).mono ?_); (case side1 => repeat (first | exact (Kd.C_below HR0_4.out HB.out) | (with_reducible refine Kd.C_alloc ?_ _) | (with_reducible refine Kd.C_drewN ?_ _) | (with_reducible refine Kd.C_drew ?_))); (case side2 => exact HC0_4.out); rintro e w5 ⟨rfl, hb⟩; refine ⟨_, rfl, ?_⟩; have n0_ := Aside0.mk (blk_below (g := gb101) (o := .cells #[.int .i64 a0_0, .string a0_1, .int .i64 a0_2, .int .i64 a0_3, .slice A0_4 l0_4.length c0_4] 40 (0, 0)) (by (with_reducible repeat (first | refine blk_drewN ?_ _ | refine blk_drew ?_ | refine blk_alloc ?_ _)); exact BK101.out) hb); have n1_ := Aside0.mk (below_step (by repeat (first | (with_reducible first | exact HB.out | apply below_alloc | apply pw_below_drewN | apply below_drew1 | refine below_set ?_ GE101.out) | exact HB.out)) hb); clear BK101; clear HB; have BK101 := n0_; have HB := n1_; clear n0_ n1_; (try clear hb); (try clear hb2); (try clear hk); (try clear hi)))
 go_ret
 exact ⟨by first | rfl | (simp [errW_none, errW_some] <;> rfl) | (simp [*, errW_none, errW_some] <;> rfl), by repeat (first | (with_reducible first | exact HB.out | apply below_alloc | apply pw_below_drewN | apply below_drew1 | refine below_set ?_ GE101.out) | exact HB.out)⟩

end Go.Proofs.Ytgdpabedlghiaaa.PZ
-- printed for this claim by a program (pall.sh)
-- mended by fixpz.py
namespace Go.Proofs.Ytgdpabedlghiaaa.PZ
open Go.RowKit Go.Proofs.YtgdpabedlghiaaaW.PrintWords Go.Proofs.YtgdpabedlghiaaaW.PrintLast Go.Proofs.YtgdpabedlghiaaaW.PrintMore
attribute [local go_sem] max2_int min2_int max_two min_two max_three min_three max_four min_four   -- for this text's walks alone
set_option linter.unusedVariables false
set_option linter.unusedSimpArgs false

/-! ### hanaperref20_many: function 74 -/
def hanaperref20_many.f (a0 : Int) : Option (Bool) := if a0 = 6 then (some true) else (some (a0 == 7))
set_option maxHeartbeats 8000000 in
set_option maxRecDepth 100000 in
theorem hanaperref20_many.calls (a0 : Int) (r : Bool) (w : World) (h : hanaperref20_many.f a0 = some r) :
  Calls Try.prog 74 #[.int .i64 a0] w fun e w' => e = .returned (.bool r) ∧ Drawn0 w w' := by
 have H : (if a0 = 6 then (some true) else (some (a0 == 7))) = some r := h
 clear h
 by_cases c2 : a0 = 6
 ·rw [if_pos c2] at H
  have c2b0 : (a0 == 6) = true := beq_iff_eq.mpr c2
  have c2b1 : (a0 != 6) = false := bne_eq_false_iff_eq.mpr c2
  clear c2
  obtain rfl := Option.some.inj H
  go_enter Try.func74, Try.ntmps74
  go_wp2
  go_ret
  exact ⟨by first | rfl | (simp; done) | (simp [*]; done), by repeat (first | exact Drawn0.refl _ | apply Drawn0.step)⟩
 ·rw [if_neg c2] at H
  have c2b0 : (a0 == 6) = false := beq_eq_false_iff_ne.mpr c2
  have c2b1 : (a0 != 6) = true := bne_iff_ne.mpr c2
  obtain rfl := Option.some.inj H
  go_enter Try.func74, Try.ntmps74
  go_wp2
  go_ret
  exact ⟨by first | rfl | (simp; done) | (simp [*]; done), by repeat (first | exact Drawn0.refl _ | apply Drawn0.step)⟩

end Go.Proofs.Ytgdpabedlghiaaa.PZ
-- printed for this claim by a program (pall.sh)
-- mended by fixpz.py
namespace Go.Proofs.Ytgdpabedlghiaaa.PZ
open Go.RowKit Go.Proofs.YtgdpabedlghiaaaW.PrintWords Go.Proofs.YtgdpabedlghiaaaW.PrintLast Go.Proofs.YtgdpabedlghiaaaW.PrintMore
attribute [local go_sem] max2_int min2_int max_two min_two max_three min_three max_four min_four   -- for this text's walks alone
set_option linter.unusedVariables false
set_option linter.unusedSimpArgs false

/-! ### hanaperref20_named: function 111 -/
def hanaperref20_named.f (a0 : Int) : Option (Bool) := if a0 = 2 then (some true) else (if a0 = 3 then (some true) else (some (a0 == 4)))
set_option maxHeartbeats 8000000 in
set_option maxRecDepth 100000 in
theorem hanaperref20_named.calls (a0 : Int) (r : Bool) (w : World) (h : hanaperref20_named.f a0 = some r) :
  Calls Try.prog 111 #[.int .i64 a0] w fun e w' => e = .returned (.bool r) ∧ Drawn0 w w' := by
 have H : (if a0 = 2 then (some true) else (if a0 = 3 then (some true) else (some (a0 == 4)))) = some r := h
 clear h
 by_cases c2 : a0 = 2
 ·rw [if_pos c2] at H
  have c2b0 : (a0 == 2) = true := beq_iff_eq.mpr c2
  have c2b1 : (a0 != 2) = false := bne_eq_false_iff_eq.mpr c2
  clear c2
  obtain rfl := Option.some.inj H
  go_enter Try.func111, Try.ntmps111
  go_wp2
  go_ret
  exact ⟨by first | rfl | (simp; done) | (simp [*]; done), by repeat (first | exact Drawn0.refl _ | apply Drawn0.step)⟩
 ·rw [if_neg c2] at H
  have c2b0 : (a0 == 2) = false := beq_eq_false_iff_ne.mpr c2
  have c2b1 : (a0 != 2) = true := bne_iff_ne.mpr c2
  by_cases c3 : a0 = 3
  ·rw [if_pos c3] at H
   have c3b0 : (a0 == 3) = true := beq_iff_eq.mpr c3
   have c3b1 : (a0 != 3) = false := bne_eq_false_iff_eq.mpr c3
   clear c3
   obtain rfl := Option.some.inj H
   go_enter Try.func111, Try.ntmps111
   go_wp2
   go_ret
   exact ⟨by first | rfl | (simp; done) | (simp [*]; done), by repeat (first | exact Drawn0.refl _ | apply Drawn0.step)⟩
  ·rw [if_neg c3] at H
   have c3b0 : (a0 == 3) = false := beq_eq_false_iff_ne.mpr c3
   have c3b1 : (a0 != 3) = true := bne_iff_ne.mpr c3
   obtain rfl := Option.some.inj H
   go_enter Try.func111, Try.ntmps111
   go_wp2
   go_ret
   exact ⟨by first | rfl | (simp; done) | (simp [*]; done), by repeat (first | exact Drawn0.refl _ | apply Drawn0.step)⟩

end Go.Proofs.Ytgdpabedlghiaaa.PZ
/- Scopes, plain: how many parts, which may be. -/
namespace Go.Proofs.Ytgdpabedlghiaaa.Scope
set_option linter.unusedVariables false
set_option linter.unusedSimpArgs false
open Go.RowKit Go.Proofs.YtgdpabedlghiaaaW.PrintWords Go.Proofs.Ytgdpabedlghiaaa.PZ Go.Proofs.Ytgdpabedlghiaaa.Aid
mutual
/-- How many parts a scope has. -/
def nodes : S40 → Nat
 | ⟨_, _, _, _, kids⟩ => nodesL kids + 1
def nodesL : List S40 → Nat
 | [] => 0
 | k :: ks => nodes k + nodesL ks
end
mutual
/-- Its names are short. -/
def short : S40 → Prop
 | ⟨_, nm, _, _, kids⟩ => nm.size ≤ 100 ∧ shortL kids
def shortL : List S40 → Prop
 | [] => True
 | k :: ks => short k ∧ shortL ks
end
theorem nodes_eq (x : S40) : nodes x = nodesL x.f4 + 1 := by obtain ⟨_, _, _, _, _⟩ := x; rw [nodes]
theorem short_eq (x : S40) : short x ↔ x.f1.size ≤ 100 ∧ shortL x.f4 := by obtain ⟨_, _, _, _, _⟩ := x; rw [short]
theorem nodes_pos (x : S40) : 1 ≤ nodes x := by rw [nodes_eq]; omega
theorem len_nodes : ∀ ks : List S40, ks.length ≤ nodesL ks
 | [] => Nat.zero_le _
 | k :: ks => by rw [nodesL, List.length_cons]; have := len_nodes ks; have := nodes_pos k; omega
theorem rd_at (xs : List S40) (i : Nat) (h : i < xs.length) : rd_T40 xs (i : Int) = xs[i] := by simp [rd_T40, List.getD_eq_getElem?_getD, List.getElem?_eq_getElem h]
/-- What 'small' comes to: below 0, or what is left of as many parts. -/
def SmallV (x : S40) (most v : Int) : Prop := -1 ≤ v ∧ v ≤ 60 ∧ (0 ≤ v → short x ∧ (nodes x : Int) + v ≤ most)
theorem small_loop (op : Int) (nm : ByteArray) (fr to_ : Int) (kids : List S40) (deep : Int) (hd0 : 0 ≤ deep) (hd1 : deep ≤ 30)
  (ih : ∀ k ∈ kids, ∀ most, -1 ≤ most → most ≤ 60 → ∃ v, SmallV k most v ∧ Ev (fun n => hanaperref20_small.f n k.f0 k.f1 k.f2 k.f3 k.f4 most (wrap64 (deep - 1))) v) :
  ∀ (m i : Nat) (most : Int), i + m = kids.length → kids.length ≤ 60 → -1 ≤ most → most ≤ 60 →
   ∃ v, -1 ≤ v ∧ v ≤ 60 ∧ (0 ≤ v → shortL (kids.drop i) ∧ (nodesL (kids.drop i) : Int) + v ≤ most) ∧ Ev (fun n => hanaperref20_small.l0 n most deep (i : Int) op nm fr to_ kids) v := by
 intro m
 induction m with
 | zero =>
  intro i most hi hl h0 h1
  refine ⟨most, h0, h1, fun h => ?_, Ev.step (fun k => by simp only [hanaperref20_small.l0]; rfl) (neg (by omega) (now rfl))⟩
  rw [List.drop_eq_nil_of_le (by omega)]
  exact ⟨trivial, by simp [nodesL]⟩
 | succ m ih2 =>
  intro i most hi hl h0 h1
  by_cases hm : most ≥ 0
  ·have hlt : i < kids.length := by omega
   obtain ⟨v, hv, he⟩ := ih kids[i] (List.getElem_mem hlt) most h0 h1
   obtain ⟨v2, a0, a1, a2, a3⟩ := ih2 (i + 1) v (by omega) hl hv.1 hv.2.1
   refine ⟨v2, a0, a1, fun h => ?_, Ev.step (fun k => by simp only [hanaperref20_small.l0]; rfl) (pos (by omega) (pos hm (pos (by omega) ?_)))⟩
   ·have hp : 0 ≤ v := by
     have := (a2 h).2
     omega
    have b := hv.2.2 hp
    rw [List.drop_eq_getElem_cons hlt, shortL, nodesL]
    exact ⟨⟨b.1, (a2 h).1⟩, by have := (a2 h).2; omega⟩
   ·rw [rd_at kids i hlt]
    refine evBind he ?_
    rw [show wrap64 ((i : Int) + 1) = ((i + 1 : Nat) : Int) from inc hlt (by omega)]
    exact a3
  ·refine ⟨most, h0, h1, fun h => absurd h hm, Ev.step (fun k => by simp only [hanaperref20_small.l0]; rfl) (pos (by omega) (neg hm (now rfl)))⟩
theorem small_j (op : Int) (nm : ByteArray) (fr to_ : Int) (kids : List S40) (most deep : Int) : Ev (fun n => hanaperref20_small.j0 n most deep true op nm fr to_ kids) (-1) :=
 Ev.step (fun k => by simp only [hanaperref20_small.j0]; rfl) (pos (show true = true from rfl) (now rfl))
theorem small_ev : ∀ (n : Nat) (x : S40), SizeOf.sizeOf x < n → ∀ most deep, -1 ≤ most → most ≤ 60 → 0 ≤ deep → deep ≤ 30 → ∃ v, SmallV x most v ∧ Ev (fun k => hanaperref20_small.f k x.f0 x.f1 x.f2 x.f3 x.f4 most deep) v := by
 intro n
 induction n with
 | zero => intro x h; exact absurd h (by omega)
 | succ n ih =>
  intro x hn most deep h0 h1 d0 d1
  have bad : ∀ g : Nat → Option Int, Ev g (-1) → SmallV x most (-1) := fun _ _ => ⟨by omega, by omega, fun h => absurd h (by omega)⟩
  by_cases c1 : most < 1
  ·exact ⟨-1, bad _ (small_j 0 x.f1 0 0 [] 0 0), Ev.step (fun k => by simp only [hanaperref20_small.f]; rfl) (pos c1 (small_j _ _ _ _ _ _ _))⟩
  ·by_cases c2 : deep < 1
   ·exact ⟨-1, bad _ (small_j 0 x.f1 0 0 [] 0 0), Ev.step (fun k => by simp only [hanaperref20_small.f]; rfl) (neg c1 (pos c2 (small_j _ _ _ _ _ _ _)))⟩
   ·by_cases c3 : (x.f4.length : Int) > most
    ·exact ⟨-1, bad _ (small_j 0 x.f1 0 0 [] 0 0), Ev.step (fun k => by simp only [hanaperref20_small.f]; rfl) (neg c1 (neg c2 (pos c3 (small_j _ _ _ _ _ _ _))))⟩
    ·by_cases c4 : (x.f1.size : Int) > 100
     ·exact ⟨-1, bad _ (small_j 0 x.f1 0 0 [] 0 0), Ev.step (fun k => by simp only [hanaperref20_small.f]; rfl) (neg c1 (neg c2 (neg c3 (by rw [decide_eq_true c4]; exact small_j _ _ _ _ _ _ _))))⟩
     ·have hw : wrap64 (most - 1) = most - 1 := w64 (by omega) (by omega)
      have hw2 : wrap64 (deep - 1) = deep - 1 := w64 (by omega) (by omega)
      obtain ⟨v, a0, a1, a2, a3⟩ := small_loop x.f0 x.f1 x.f2 x.f3 x.f4 deep d0 d1 (fun k hk m q0 q1 => ih k (by have := kid_lt hk; omega) m (wrap64 (deep - 1)) q0 q1 (by omega) (by omega)) x.f4.length 0 (most - 1) (by omega) (by omega) (by omega) (by omega)
      refine ⟨v, ⟨a0, a1, fun h => ?_⟩, Ev.step (fun k => by simp only [hanaperref20_small.f]; rfl) (neg c1 (neg c2 (neg c3 ?_)))⟩
      ·have b := a2 h
       rw [List.drop_zero] at b
       exact ⟨(short_eq x).2 ⟨by omega, b.1⟩, by rw [nodes_eq]; have := b.2; omega⟩
      ·rw [decide_eq_false c4]
       refine Ev.step (fun k => by simp only [hanaperref20_small.j0]; rfl) (neg (show ¬ (false = true) by decide) ?_)
       rw [hw]
       exact a3
/-- Small, whatever the scope: yes or no; if yes, it has at most 60 parts, and short names. -/
theorem Small_ev (x : S40) : ∃ b, Ev (fun k => hanaperref20_Small.f k x.f0 x.f1 x.f2 x.f3 x.f4) b ∧ (b = true → short x ∧ nodes x ≤ 60) := by
 obtain ⟨v, hv, he⟩ := small_ev _ x (Nat.lt_succ_self _) 60 30 (by decide) (by decide) (by decide) (by decide)
 refine ⟨decide (v ≥ 0), evBind he (now rfl), fun h => ?_⟩
 have h0 : 0 ≤ v := of_decide_eq_true h
 have := hv.2.2 h0
 exact ⟨this.1, by omega⟩
theorem node_le : ∀ {ks : List S40} {k : S40}, k ∈ ks → nodes k ≤ nodesL ks
 | k' :: ks, k, h => by
  rw [nodesL]
  rcases List.mem_cons.1 h with rfl | h
  ·omega
  ·have := node_le h; omega
theorem shortL_mem : ∀ {ks : List S40} {k : S40}, shortL ks → k ∈ ks → short k
 | k' :: ks, k, h, hk => by
  rw [shortL] at h
  rcases List.mem_cons.1 hk with rfl | hk
  ·exact h.1
  ·exact shortL_mem h.2 hk
theorem named_v2 (op : Int) : hanaperref20_named.f op = some (namedB op) := by
 unfold hanaperref20_named.f namedB
 by_cases h2 : op = 2
 ·simp [h2]
 ·by_cases h3 : op = 3
  ·simp [h3]
  ·by_cases h4 : op = 4 <;> simp [h2, h3, h4]
theorem many_v (op : Int) : hanaperref20_many.f op = some (decide (op = 6 ∨ op = 7)) := by
 unfold hanaperref20_many.f
 by_cases h6 : op = 6
 ·simp [h6]
 ·by_cases h7 : op = 7 <;> simp [h6, h7]
end Go.Proofs.Ytgdpabedlghiaaa.Scope
-- printed for this claim by a program (pall.sh)
-- mended by fixpz.py
namespace Go.Proofs.Ytgdpabedlghiaaa.PZ
open Go.RowKit Go.Proofs.YtgdpabedlghiaaaW.PrintWords Go.Proofs.YtgdpabedlghiaaaW.PrintLast Go.Proofs.YtgdpabedlghiaaaW.PrintMore
attribute [local go_sem] max2_int min2_int max_two min_two max_three min_three max_four min_four   -- for this text's walks alone
set_option linter.unusedVariables false
set_option linter.unusedSimpArgs false

/-! ### hanaperref12_Name: function 22 -/
def hanaperref12_Name.l0 : Nat → ByteArray → Int → Option (Bool)
 | 0, _, _ => none
 | k + 1, x0, x3 => if x3 < (x0.size : Int) then (if 0 ≤ x3 then (if (bt x0 x3) < 97 then (if (bt x0 x3) < 48 then (if (bt x0 x3) = 46 then (hanaperref12_Name.l0 k x0 (wrap64 (x3 + 1))) else (if (bt x0 x3) = 45 then (hanaperref12_Name.l0 k x0 (wrap64 (x3 + 1))) else (if (bt x0 x3) = 95 then (hanaperref12_Name.l0 k x0 (wrap64 (x3 + 1))) else (some false)))) else (if (bt x0 x3) > 57 then (if (bt x0 x3) = 46 then (hanaperref12_Name.l0 k x0 (wrap64 (x3 + 1))) else (if (bt x0 x3) = 45 then (hanaperref12_Name.l0 k x0 (wrap64 (x3 + 1))) else (if (bt x0 x3) = 95 then (hanaperref12_Name.l0 k x0 (wrap64 (x3 + 1))) else (some false)))) else (hanaperref12_Name.l0 k x0 (wrap64 (x3 + 1))))) else (if (bt x0 x3) > 122 then (if (bt x0 x3) < 48 then (if (bt x0 x3) = 46 then (hanaperref12_Name.l0 k x0 (wrap64 (x3 + 1))) else (if (bt x0 x3) = 45 then (hanaperref12_Name.l0 k x0 (wrap64 (x3 + 1))) else (if (bt x0 x3) = 95 then (hanaperref12_Name.l0 k x0 (wrap64 (x3 + 1))) else (some false)))) else (if (bt x0 x3) > 57 then (if (bt x0 x3) = 46 then (hanaperref12_Name.l0 k x0 (wrap64 (x3 + 1))) else (if (bt x0 x3) = 45 then (hanaperref12_Name.l0 k x0 (wrap64 (x3 + 1))) else (if (bt x0 x3) = 95 then (hanaperref12_Name.l0 k x0 (wrap64 (x3 + 1))) else (some false)))) else (hanaperref12_Name.l0 k x0 (wrap64 (x3 + 1))))) else (hanaperref12_Name.l0 k x0 (wrap64 (x3 + 1))))) else (none)) else (if (x0.size : Int) ≥ 1 then (some (decide ((x0.size : Int) ≤ 16))) else (some false))
def hanaperref12_Name.f (k : Nat) (a0 : ByteArray) : Option (Bool) := hanaperref12_Name.l0 k a0 0
set_option maxHeartbeats 8000000 in
set_option maxRecDepth 100000 in
theorem hanaperref12_Name.calls (k : Nat) (a0 : ByteArray) (r : Bool) (w : World) (h : hanaperref12_Name.f k a0 = some r) :
  Calls Try.prog 22 #[.string a0] w fun e w' => e = .returned (.bool r) ∧ Drawn0 w w' := by
 have H : (hanaperref12_Name.l0 k a0 0) = some r := h
 clear h
 have H' := Aside0.mk H
 clear H
 go_enter Try.func22, Try.ntmps22
 go_wp2
 go_loopg [3] k (fun kq v3 w' => ∃ (x3_1 : Int), v3 = .int .i64 x3_1 ∧ Aside0 (hanaperref12_Name.l0 kq a0 x3_1 = some r) ∧ Aside0 (kq ≤ k) ∧ Drawn0 w w')
 case atStart => exact ⟨(0), (by first | rfl | (simp; done) | (simp [*]; done)), H', ⟨Nat.le_refl _⟩, by repeat (first | exact Drawn0.refl _ | apply Drawn0.step)⟩
 case round =>
  clear H'
  obtain ⟨x3_1, rfl, HA, HK1, ⟨m1, rfl⟩⟩ := hrel
  cases gk with
  | zero => exact absurd HA.out (by simp [hanaperref12_Name.l0])
  | succ k1 =>
   have H := HA.out
   clear HA
   simp only [hanaperref12_Name.l0] at H
   by_cases c2 : x3_1 < (a0.size : Int)
   ·rw [if_pos c2] at H
    have c2b0 : decide (x3_1 < (a0.size : Int)) = true := decide_eq_true c2
    clear c2
    by_cases c3 : 0 ≤ x3_1
    ·rw [if_pos c3] at H
     have c3b0 : decide (0 ≤ x3_1) = true := decide_eq_true c3
     clear c3
     by_cases c5 : (bt a0 x3_1) < 97
     ·rw [if_pos c5] at H
      have c5b0 : decide ((bt a0 x3_1) < 97) = true := decide_eq_true c5
      clear c5
      by_cases c6 : (bt a0 x3_1) < 48
      ·rw [if_pos c6] at H
       have c6b0 : decide ((bt a0 x3_1) < 48) = true := decide_eq_true c6
       clear c6
       by_cases c7 : (bt a0 x3_1) = 46
       ·rw [if_pos c7] at H
        have c7b0 : ((bt a0 x3_1) == 46) = true := beq_iff_eq.mpr c7
        have c7b1 : ((bt a0 x3_1) != 46) = false := bne_eq_false_iff_eq.mpr c7
        clear c7
        have H' := Aside0.mk H
        clear H
        have p4 : 0 ≤ (x3_1 : Int) := of_decide_eq_true (by first | (with_reducible assumption) | assumption)
        have q4 : x3_1 < (a0.size : Int) := of_decide_eq_true (by first | (with_reducible assumption) | assumption)
        have hx4 := bt_at a0 x3_1
        replace p4 := eq_true p4
        replace q4 := eq_true q4
        go_wp2
        go_roundg k1
        case measure => have := HK1.out; omega
        case rel => exact ⟨(wrap64 (x3_1 + 1)), (by first | rfl | (simp; done) | (simp [*]; done)), H', ⟨by have := HK1.out; omega⟩, by repeat (first | exact Drawn0.refl _ | apply Drawn0.step)⟩
       ·rw [if_neg c7] at H
        have c7b0 : ((bt a0 x3_1) == 46) = false := beq_eq_false_iff_ne.mpr c7
        have c7b1 : ((bt a0 x3_1) != 46) = true := bne_iff_ne.mpr c7
        by_cases c8 : (bt a0 x3_1) = 45
        ·rw [if_pos c8] at H
         have c8b0 : ((bt a0 x3_1) == 45) = true := beq_iff_eq.mpr c8
         have c8b1 : ((bt a0 x3_1) != 45) = false := bne_eq_false_iff_eq.mpr c8
         clear c8
         have H' := Aside0.mk H
         clear H
         have p4 : 0 ≤ (x3_1 : Int) := of_decide_eq_true (by first | (with_reducible assumption) | assumption)
         have q4 : x3_1 < (a0.size : Int) := of_decide_eq_true (by first | (with_reducible assumption) | assumption)
         have hx4 := bt_at a0 x3_1
         replace p4 := eq_true p4
         replace q4 := eq_true q4
         go_wp2
         go_roundg k1
         case measure => have := HK1.out; omega
         case rel => exact ⟨(wrap64 (x3_1 + 1)), (by first | rfl | (simp; done) | (simp [*]; done)), H', ⟨by have := HK1.out; omega⟩, by repeat (first | exact Drawn0.refl _ | apply Drawn0.step)⟩
        ·rw [if_neg c8] at H
         have c8b0 : ((bt a0 x3_1) == 45) = false := beq_eq_false_iff_ne.mpr c8
         have c8b1 : ((bt a0 x3_1) != 45) = true := bne_iff_ne.mpr c8
         by_cases c9 : (bt a0 x3_1) = 95
         ·rw [if_pos c9] at H
          have c9b0 : ((bt a0 x3_1) == 95) = true := beq_iff_eq.mpr c9
          have c9b1 : ((bt a0 x3_1) != 95) = false := bne_eq_false_iff_eq.mpr c9
          clear c9
          have H' := Aside0.mk H
          clear H
          have p4 : 0 ≤ (x3_1 : Int) := of_decide_eq_true (by first | (with_reducible assumption) | assumption)
          have q4 : x3_1 < (a0.size : Int) := of_decide_eq_true (by first | (with_reducible assumption) | assumption)
          have hx4 := bt_at a0 x3_1
          replace p4 := eq_true p4
          replace q4 := eq_true q4
          go_wp2
          go_roundg k1
          case measure => have := HK1.out; omega
          case rel => exact ⟨(wrap64 (x3_1 + 1)), (by first | rfl | (simp; done) | (simp [*]; done)), H', ⟨by have := HK1.out; omega⟩, by repeat (first | exact Drawn0.refl _ | apply Drawn0.step)⟩
         ·rw [if_neg c9] at H
          have c9b0 : ((bt a0 x3_1) == 95) = false := beq_eq_false_iff_ne.mpr c9
          have c9b1 : ((bt a0 x3_1) != 95) = true := bne_iff_ne.mpr c9
          obtain rfl := Option.some.inj H
          have p4 : 0 ≤ (x3_1 : Int) := of_decide_eq_true (by first | (with_reducible assumption) | assumption)
          have q4 : x3_1 < (a0.size : Int) := of_decide_eq_true (by first | (with_reducible assumption) | assumption)
          have hx4 := bt_at a0 x3_1
          replace p4 := eq_true p4
          replace q4 := eq_true q4
          go_wp2
          go_ret
          exact ⟨by first | rfl | (simp; done) | (simp [*]; done), by repeat (first | exact Drawn0.refl _ | apply Drawn0.step)⟩
      ·rw [if_neg c6] at H
       have c6b0 : decide ((bt a0 x3_1) < 48) = false := decide_eq_false c6
       clear c6
       by_cases c10 : (bt a0 x3_1) > 57
       ·rw [if_pos c10] at H
        have c10b0 : decide (57 < (bt a0 x3_1)) = true := decide_eq_true c10
        clear c10
        by_cases c11 : (bt a0 x3_1) = 46
        ·rw [if_pos c11] at H
         have c11b0 : ((bt a0 x3_1) == 46) = true := beq_iff_eq.mpr c11
         have c11b1 : ((bt a0 x3_1) != 46) = false := bne_eq_false_iff_eq.mpr c11
         clear c11
         have H' := Aside0.mk H
         clear H
         have p4 : 0 ≤ (x3_1 : Int) := of_decide_eq_true (by first | (with_reducible assumption) | assumption)
         have q4 : x3_1 < (a0.size : Int) := of_decide_eq_true (by first | (with_reducible assumption) | assumption)
         have hx4 := bt_at a0 x3_1
         replace p4 := eq_true p4
         replace q4 := eq_true q4
         go_wp2
         go_roundg k1
         case measure => have := HK1.out; omega
         case rel => exact ⟨(wrap64 (x3_1 + 1)), (by first | rfl | (simp; done) | (simp [*]; done)), H', ⟨by have := HK1.out; omega⟩, by repeat (first | exact Drawn0.refl _ | apply Drawn0.step)⟩
        ·rw [if_neg c11] at H
         have c11b0 : ((bt a0 x3_1) == 46) = false := beq_eq_false_iff_ne.mpr c11
         have c11b1 : ((bt a0 x3_1) != 46) = true := bne_iff_ne.mpr c11
         by_cases c12 : (bt a0 x3_1) = 45
         ·rw [if_pos c12] at H
          have c12b0 : ((bt a0 x3_1) == 45) = true := beq_iff_eq.mpr c12
          have c12b1 : ((bt a0 x3_1) != 45) = false := bne_eq_false_iff_eq.mpr c12
          clear c12
          have H' := Aside0.mk H
          clear H
          have p4 : 0 ≤ (x3_1 : Int) := of_decide_eq_true (by first | (with_reducible assumption) | assumption)
          have q4 : x3_1 < (a0.size : Int) := of_decide_eq_true (by first | (with_reducible assumption) | assumption)
          have hx4 := bt_at a0 x3_1
          replace p4 := eq_true p4
          replace q4 := eq_true q4
          go_wp2
          go_roundg k1
          case measure => have := HK1.out; omega
          case rel => exact ⟨(wrap64 (x3_1 + 1)), (by first | rfl | (simp; done) | (simp [*]; done)), H', ⟨by have := HK1.out; omega⟩, by repeat (first | exact Drawn0.refl _ | apply Drawn0.step)⟩
         ·rw [if_neg c12] at H
          have c12b0 : ((bt a0 x3_1) == 45) = false := beq_eq_false_iff_ne.mpr c12
          have c12b1 : ((bt a0 x3_1) != 45) = true := bne_iff_ne.mpr c12
          by_cases c13 : (bt a0 x3_1) = 95
          ·rw [if_pos c13] at H
           have c13b0 : ((bt a0 x3_1) == 95) = true := beq_iff_eq.mpr c13
           have c13b1 : ((bt a0 x3_1) != 95) = false := bne_eq_false_iff_eq.mpr c13
           clear c13
           have H' := Aside0.mk H
           clear H
           have p4 : 0 ≤ (x3_1 : Int) := of_decide_eq_true (by first | (with_reducible assumption) | assumption)
           have q4 : x3_1 < (a0.size : Int) := of_decide_eq_true (by first | (with_reducible assumption) | assumption)
           have hx4 := bt_at a0 x3_1
           replace p4 := eq_true p4
           replace q4 := eq_true q4
           go_wp2
           go_roundg k1
           case measure => have := HK1.out; omega
           case rel => exact ⟨(wrap64 (x3_1 + 1)), (by first | rfl | (simp; done) | (simp [*]; done)), H', ⟨by have := HK1.out; omega⟩, by repeat (first | exact Drawn0.refl _ | apply Drawn0.step)⟩
          ·rw [if_neg c13] at H
           have c13b0 : ((bt a0 x3_1) == 95) = false := beq_eq_false_iff_ne.mpr c13
           have c13b1 : ((bt a0 x3_1) != 95) = true := bne_iff_ne.mpr c13
           obtain rfl := Option.some.inj H
           have p4 : 0 ≤ (x3_1 : Int) := of_decide_eq_true (by first | (with_reducible assumption) | assumption)
           have q4 : x3_1 < (a0.size : Int) := of_decide_eq_true (by first | (with_reducible assumption) | assumption)
           have hx4 := bt_at a0 x3_1
           replace p4 := eq_true p4
           replace q4 := eq_true q4
           go_wp2
           go_ret
           exact ⟨by first | rfl | (simp; done) | (simp [*]; done), by repeat (first | exact Drawn0.refl _ | apply Drawn0.step)⟩
       ·rw [if_neg c10] at H
        have c10b0 : decide (57 < (bt a0 x3_1)) = false := decide_eq_false c10
        clear c10
        have H' := Aside0.mk H
        clear H
        have p4 : 0 ≤ (x3_1 : Int) := of_decide_eq_true (by first | (with_reducible assumption) | assumption)
        have q4 : x3_1 < (a0.size : Int) := of_decide_eq_true (by first | (with_reducible assumption) | assumption)
        have hx4 := bt_at a0 x3_1
        replace p4 := eq_true p4
        replace q4 := eq_true q4
        go_wp2
        go_roundg k1
        case measure => have := HK1.out; omega
        case rel => exact ⟨(wrap64 (x3_1 + 1)), (by first | rfl | (simp; done) | (simp [*]; done)), H', ⟨by have := HK1.out; omega⟩, by repeat (first | exact Drawn0.refl _ | apply Drawn0.step)⟩
     ·rw [if_neg c5] at H
      have c5b0 : decide ((bt a0 x3_1) < 97) = false := decide_eq_false c5
      clear c5
      by_cases c14 : (bt a0 x3_1) > 122
      ·rw [if_pos c14] at H
       have c14b0 : decide (122 < (bt a0 x3_1)) = true := decide_eq_true c14
       clear c14
       by_cases c15 : (bt a0 x3_1) < 48
       ·rw [if_pos c15] at H
        have c15b0 : decide ((bt a0 x3_1) < 48) = true := decide_eq_true c15
        clear c15
        by_cases c16 : (bt a0 x3_1) = 46
        ·rw [if_pos c16] at H
         have c16b0 : ((bt a0 x3_1) == 46) = true := beq_iff_eq.mpr c16
         have c16b1 : ((bt a0 x3_1) != 46) = false := bne_eq_false_iff_eq.mpr c16
         clear c16
         have H' := Aside0.mk H
         clear H
         have p4 : 0 ≤ (x3_1 : Int) := of_decide_eq_true (by first | (with_reducible assumption) | assumption)
         have q4 : x3_1 < (a0.size : Int) := of_decide_eq_true (by first | (with_reducible assumption) | assumption)
         have hx4 := bt_at a0 x3_1
         replace p4 := eq_true p4
         replace q4 := eq_true q4
         go_wp2
         go_roundg k1
         case measure => have := HK1.out; omega
         case rel => exact ⟨(wrap64 (x3_1 + 1)), (by first | rfl | (simp; done) | (simp [*]; done)), H', ⟨by have := HK1.out; omega⟩, by repeat (first | exact Drawn0.refl _ | apply Drawn0.step)⟩
        ·rw [if_neg c16] at H
         have c16b0 : ((bt a0 x3_1) == 46) = false := beq_eq_false_iff_ne.mpr c16
         have c16b1 : ((bt a0 x3_1) != 46) = true := bne_iff_ne.mpr c16
         by_cases c17 : (bt a0 x3_1) = 45
         ·rw [if_pos c17] at H
          have c17b0 : ((bt a0 x3_1) == 45) = true := beq_iff_eq.mpr c17
          have c17b1 : ((bt a0 x3_1) != 45) = false := bne_eq_false_iff_eq.mpr c17
          clear c17
          have H' := Aside0.mk H
          clear H
          have p4 : 0 ≤ (x3_1 : Int) := of_decide_eq_true (by first | (with_reducible assumption) | assumption)
          have q4 : x3_1 < (a0.size : Int) := of_decide_eq_true (by first | (with_reducible assumption) | assumption)
          have hx4 := bt_at a0 x3_1
          replace p4 := eq_true p4
          replace q4 := eq_true q4
          go_wp2
          go_roundg k1
          case measure => have := HK1.out; omega
          case rel => exact ⟨(wrap64 (x3_1 + 1)), (by first | rfl | (simp; done) | (simp [*]; done)), H', ⟨by have := HK1.out; omega⟩, by repeat (first | exact Drawn0.refl _ | apply Drawn0.step)⟩
         ·rw [if_neg c17] at H
          have c17b0 : ((bt a0 x3_1) == 45) = false := beq_eq_false_iff_ne.mpr c17
          have c17b1 : ((bt a0 x3_1) != 45) = true := bne_iff_ne.mpr c17
          by_cases c18 : (bt a0 x3_1) = 95
          ·rw [if_pos c18] at H
           have c18b0 : ((bt a0 x3_1) == 95) = true := beq_iff_eq.mpr c18
           have c18b1 : ((bt a0 x3_1) != 95) = false := bne_eq_false_iff_eq.mpr c18
           clear c18
           have H' := Aside0.mk H
           clear H
           have p4 : 0 ≤ (x3_1 : Int) := of_decide_eq_true (by first | (with_reducible assumption) | assumption)
           have q4 : x3_1 < (a0.size : Int) := of_decide_eq_true (by first | (with_reducible assumption) | assumption)
           have hx4 := bt_at a0 x3_1
           replace p4 := eq_true p4
           replace q4 := eq_true q4
           go_wp2
           go_roundg k1
           case measure => have := HK1.out; omega
           case rel => exact ⟨(wrap64 (x3_1 + 1)), (by first | rfl | (simp; done) | (simp [*]; done)), H', ⟨by have := HK1.out; omega⟩, by repeat (first | exact Drawn0.refl _ | apply Drawn0.step)⟩
          ·rw [if_neg c18] at H
           have c18b0 : ((bt a0 x3_1) == 95) = false := beq_eq_false_iff_ne.mpr c18
           have c18b1 : ((bt a0 x3_1) != 95) = true := bne_iff_ne.mpr c18
           obtain rfl := Option.some.inj H
           have p4 : 0 ≤ (x3_1 : Int) := of_decide_eq_true (by first | (with_reducible assumption) | assumption)
           have q4 : x3_1 < (a0.size : Int) := of_decide_eq_true (by first | (with_reducible assumption) | assumption)
           have hx4 := bt_at a0 x3_1
           replace p4 := eq_true p4
           replace q4 := eq_true q4
           go_wp2
           go_ret
           exact ⟨by first | rfl | (simp; done) | (simp [*]; done), by repeat (first | exact Drawn0.refl _ | apply Drawn0.step)⟩
       ·rw [if_neg c15] at H
        have c15b0 : decide ((bt a0 x3_1) < 48) = false := decide_eq_false c15
        clear c15
        by_cases c19 : (bt a0 x3_1) > 57
        ·rw [if_pos c19] at H
         have c19b0 : decide (57 < (bt a0 x3_1)) = true := decide_eq_true c19
         clear c19
         by_cases c20 : (bt a0 x3_1) = 46
         ·rw [if_pos c20] at H
          have c20b0 : ((bt a0 x3_1) == 46) = true := beq_iff_eq.mpr c20
          have c20b1 : ((bt a0 x3_1) != 46) = false := bne_eq_false_iff_eq.mpr c20
          clear c20
          have H' := Aside0.mk H
          clear H
          have p4 : 0 ≤ (x3_1 : Int) := of_decide_eq_true (by first | (with_reducible assumption) | assumption)
          have q4 : x3_1 < (a0.size : Int) := of_decide_eq_true (by first | (with_reducible assumption) | assumption)
          have hx4 := bt_at a0 x3_1
          replace p4 := eq_true p4
          replace q4 := eq_true q4
          go_wp2
          go_roundg k1
          case measure => have := HK1.out; omega
          case rel => exact ⟨(wrap64 (x3_1 + 1)), (by first | rfl | (simp; done) | (simp [*]; done)), H', ⟨by have := HK1.out; omega⟩, by repeat (first | exact Drawn0.refl _ | apply Drawn0.step)⟩
         ·rw [if_neg c20] at H
          have c20b0 : ((bt a0 x3_1) == 46) = false := beq_eq_false_iff_ne.mpr c20
          have c20b1 : ((bt a0 x3_1) != 46) = true := bne_iff_ne.mpr c20
          by_cases c21 : (bt a0 x3_1) = 45
          ·rw [if_pos c21] at H
           have c21b0 : ((bt a0 x3_1) == 45) = true := beq_iff_eq.mpr c21
           have c21b1 : ((bt a0 x3_1) != 45) = false := bne_eq_false_iff_eq.mpr c21
           clear c21
           have H' := Aside0.mk H
           clear H
           have p4 : 0 ≤ (x3_1 : Int) := of_decide_eq_true (by first | (with_reducible assumption) | assumption)
           have q4 : x3_1 < (a0.size : Int) := of_decide_eq_true (by first | (with_reducible assumption) | assumption)
           have hx4 := bt_at a0 x3_1
           replace p4 := eq_true p4
           replace q4 := eq_true q4
           go_wp2
           go_roundg k1
           case measure => have := HK1.out; omega
           case rel => exact ⟨(wrap64 (x3_1 + 1)), (by first | rfl | (simp; done) | (simp [*]; done)), H', ⟨by have := HK1.out; omega⟩, by repeat (first | exact Drawn0.refl _ | apply Drawn0.step)⟩
          ·rw [if_neg c21] at H
           have c21b0 : ((bt a0 x3_1) == 45) = false := beq_eq_false_iff_ne.mpr c21
           have c21b1 : ((bt a0 x3_1) != 45) = true := bne_iff_ne.mpr c21
           by_cases c22 : (bt a0 x3_1) = 95
           ·rw [if_pos c22] at H
            have c22b0 : ((bt a0 x3_1) == 95) = true := beq_iff_eq.mpr c22
            have c22b1 : ((bt a0 x3_1) != 95) = false := bne_eq_false_iff_eq.mpr c22
            clear c22
            have H' := Aside0.mk H
            clear H
            have p4 : 0 ≤ (x3_1 : Int) := of_decide_eq_true (by first | (with_reducible assumption) | assumption)
            have q4 : x3_1 < (a0.size : Int) := of_decide_eq_true (by first | (with_reducible assumption) | assumption)
            have hx4 := bt_at a0 x3_1
            replace p4 := eq_true p4
            replace q4 := eq_true q4
            go_wp2
            go_roundg k1
            case measure => have := HK1.out; omega
            case rel => exact ⟨(wrap64 (x3_1 + 1)), (by first | rfl | (simp; done) | (simp [*]; done)), H', ⟨by have := HK1.out; omega⟩, by repeat (first | exact Drawn0.refl _ | apply Drawn0.step)⟩
           ·rw [if_neg c22] at H
            have c22b0 : ((bt a0 x3_1) == 95) = false := beq_eq_false_iff_ne.mpr c22
            have c22b1 : ((bt a0 x3_1) != 95) = true := bne_iff_ne.mpr c22
            obtain rfl := Option.some.inj H
            have p4 : 0 ≤ (x3_1 : Int) := of_decide_eq_true (by first | (with_reducible assumption) | assumption)
            have q4 : x3_1 < (a0.size : Int) := of_decide_eq_true (by first | (with_reducible assumption) | assumption)
            have hx4 := bt_at a0 x3_1
            replace p4 := eq_true p4
            replace q4 := eq_true q4
            go_wp2
            go_ret
            exact ⟨by first | rfl | (simp; done) | (simp [*]; done), by repeat (first | exact Drawn0.refl _ | apply Drawn0.step)⟩
        ·rw [if_neg c19] at H
         have c19b0 : decide (57 < (bt a0 x3_1)) = false := decide_eq_false c19
         clear c19
         have H' := Aside0.mk H
         clear H
         have p4 : 0 ≤ (x3_1 : Int) := of_decide_eq_true (by first | (with_reducible assumption) | assumption)
         have q4 : x3_1 < (a0.size : Int) := of_decide_eq_true (by first | (with_reducible assumption) | assumption)
         have hx4 := bt_at a0 x3_1
         replace p4 := eq_true p4
         replace q4 := eq_true q4
         go_wp2
         go_roundg k1
         case measure => have := HK1.out; omega
         case rel => exact ⟨(wrap64 (x3_1 + 1)), (by first | rfl | (simp; done) | (simp [*]; done)), H', ⟨by have := HK1.out; omega⟩, by repeat (first | exact Drawn0.refl _ | apply Drawn0.step)⟩
      ·rw [if_neg c14] at H
       have c14b0 : decide (122 < (bt a0 x3_1)) = false := decide_eq_false c14
       clear c14
       have H' := Aside0.mk H
       clear H
       have p4 : 0 ≤ (x3_1 : Int) := of_decide_eq_true (by first | (with_reducible assumption) | assumption)
       have q4 : x3_1 < (a0.size : Int) := of_decide_eq_true (by first | (with_reducible assumption) | assumption)
       have hx4 := bt_at a0 x3_1
       replace p4 := eq_true p4
       replace q4 := eq_true q4
       go_wp2
       go_roundg k1
       case measure => have := HK1.out; omega
       case rel => exact ⟨(wrap64 (x3_1 + 1)), (by first | rfl | (simp; done) | (simp [*]; done)), H', ⟨by have := HK1.out; omega⟩, by repeat (first | exact Drawn0.refl _ | apply Drawn0.step)⟩
    ·rw [if_neg c3] at H
     exact absurd H (by simp)
   ·rw [if_neg c2] at H
    have c2b0 : decide (x3_1 < (a0.size : Int)) = false := decide_eq_false c2
    clear c2
    by_cases c23 : (a0.size : Int) ≥ 1
    ·rw [if_pos c23] at H
     have c23b0 : decide (1 ≤ (a0.size : Int)) = true := decide_eq_true c23
     have c23b1 : decide (1 ≤ a0.size) = true := decide_eq_true (by omega)
     clear c23
     obtain rfl := Option.some.inj H
     go_wp2
     go_ret
     exact ⟨by first | rfl | (simp; done) | (simp [*]; done), by repeat (first | exact Drawn0.refl _ | apply Drawn0.step)⟩
    ·rw [if_neg c23] at H
     have c23b0 : decide (1 ≤ (a0.size : Int)) = false := decide_eq_false c23
     have c23b1 : decide (1 ≤ a0.size) = false := decide_eq_false (by omega)
     clear c23
     obtain rfl := Option.some.inj H
     go_wp2
     go_ret
     exact ⟨by first | rfl | (simp; done) | (simp [*]; done), by repeat (first | exact Drawn0.refl _ | apply Drawn0.step)⟩

end Go.Proofs.Ytgdpabedlghiaaa.PZ
/- Which texts may be names: the document's answer is the same. -/
namespace Go.Proofs.Ytgdpabedlghiaaa.Name
open Go.RowKit Go.Lib Go.Proofs.Ytgdpabedlghiaaa.Base Go.Proofs.Ytgdpabedlghiaaa.Aid Go.Proofs.Ytgdpabedlghiaaa.PZ Go.Proofs.YtgdpabedlghiaaaW.PrintWords Go.Proofs.YtgdpabedlghiaaaW.PrintLast Go.Proofs.YtgdpabedlghiaaaW.PrintMore

theorem letB_high {r : Nat} (h : 128 ≤ r) : letB r = false := by
  unfold letB
  rw [decide_eq_false (p := r ≤ 122) (by omega), decide_eq_false (p := r ≤ 57) (by omega), decide_eq_false (p := r = 46) (by omega), decide_eq_false (p := r = 45) (by omega), decide_eq_false (p := r = 95) (by omega)]
  simp
theorem dec_low (s : ByteArray) (pos : Nat) (hb : (s.get! pos).toNat < 128) : Utf8.decode s pos = ((s.get! pos).toNat, 1) := by
  unfold Utf8.decode
  simp only [Nat.add_zero]
  rw [if_pos hb]
theorem dec_high (s : ByteArray) (pos : Nat) (hb : ¬ (s.get! pos).toNat < 128) : 128 ≤ (Utf8.decode s pos).1 := by
  unfold Utf8.decode
  simp only [Nat.add_zero]
  rw [if_neg hb]
  split
  · split
    · assumption
    · simp [Utf8.runeError]
  · split
    · split
      · next h => simp only [Bool.and_eq_true, decide_eq_true_eq] at h; omega
      · simp [Utf8.runeError]
    · split
      · split
        · next h => simp only [Bool.and_eq_true, decide_eq_true_eq] at h; omega
        · simp [Utf8.runeError]
      · simp [Utf8.runeError]
theorem bt_get (s : ByteArray) (i : Nat) (h : i < s.size) : bt s (i : Int) = ((s.get! i).toNat : Int) := by
  unfold bt
  rw [Int.toNat_natCast, dif_pos h]
  congr 2
  show s.data[i] = s.data[i]!
  exact (getElem!_pos s.data i h).symm
theorem idx_all (s : ByteArray) : ∀ (f pos : Nat), s.size ≤ pos + f → (Lib.idxFuncFrom (fun r => !letB r) true s f pos < 0 ↔ ∀ i, pos ≤ i → i < s.size → letB (s.get! i).toNat = true) := by
  intro f
  induction f with
  | zero =>
    intro pos h
    constructor
    · intro _ i h1 h2; omega
    · intro _; show (-1 : Int) < 0; omega
  | succ f ih =>
    intro pos h
    unfold Lib.idxFuncFrom
    by_cases hp : pos < s.size
    · rw [if_pos hp]
      by_cases hb : (s.get! pos).toNat < 128
      · rw [dec_low s pos hb]
        dsimp only
        cases hl : letB (s.get! pos).toNat with
        | false =>
          rw [if_pos (by rfl)]
          constructor
          · intro h2; omega
          · intro h2; have := h2 pos (Nat.le_refl _) hp; rw [hl] at this; cases this
        | true =>
          rw [if_neg (by simp), ih (pos + 1) (by omega)]
          constructor
          · intro h2 i h3 h4
            by_cases e : i = pos
            · rw [e]; exact hl
            · exact h2 i (by omega) h4
          · intro h2 i h3 h4; exact h2 i (by omega) h4
      · have hd := dec_high s pos hb
        rw [if_pos (by rw [letB_high hd]; rfl)]
        constructor
        · intro h2; omega
        · intro h2
          have := h2 pos (Nat.le_refl _) hp
          rw [letB_high (by omega)] at this
          cases this
    · rw [if_neg hp]
      constructor
      · intro _ i h1 h2; omega
      · intro _; omega
theorem name_iff (s : ByteArray) : nameB s = (decide (∀ i, i < s.size → letB (s.get! i).toNat = true) && (decide (1 ≤ s.size) && decide (s.size ≤ 16))) := by
  unfold nameB Lib.idxFunc
  congr 1
  have := idx_all s s.size 0 (by omega)
  exact decide_eq_decide.2 (this.trans ⟨fun h i hi => h i (Nat.zero_le _) hi, fun h i _ hi => h i hi⟩)
theorem name_ev (s : ByteArray) (hs : s.size ≤ 4611686018427387904) : Ev (fun k => hanaperref12_Name.f k s) (nameB s) := by
  have key : ∀ (d i : Nat), i + d = s.size → (∀ j, j < i → letB (s.get! j).toNat = true) → Ev (fun k => hanaperref12_Name.l0 k s (i : Int)) (nameB s) := by
    intro d
    induction d with
    | zero =>
      intro i hi hall
      refine Ev.step (fun k => by simp only [hanaperref12_Name.l0]; rfl) ?_
      refine neg (by omega) ?_
      have h1 : nameB s = (decide (1 ≤ s.size) && decide (s.size ≤ 16)) := by
        rw [name_iff, decide_eq_true (p := ∀ i, i < s.size → letB (s.get! i).toNat = true) (fun j hj => hall j (by omega)), Bool.true_and]
      by_cases h2 : 1 ≤ s.size
      · refine pos (by omega) (now ?_)
        rw [h1, decide_eq_true h2, Bool.true_and]
        exact decide_eq_decide.2 (by omega)
      · refine neg (by omega) (now ?_)
        rw [h1, decide_eq_false h2, Bool.false_and]
    | succ d ih =>
      intro i hi hall
      have hil : i < s.size := by omega
      have hc := bt_get s i hil
      have hr := bt_range s (i : Int)
      refine Ev.step (fun k => by simp only [hanaperref12_Name.l0]; rfl) ?_
      refine pos (by omega) (pos (by omega) ?_)
      rw [inc hil hs]
      have hgo : letB (s.get! i).toNat = true → Ev (fun k => hanaperref12_Name.l0 k s ((i + 1 : Nat) : Int)) (nameB s) := fun h => ih (i + 1) (by omega) (fun j hj => by
        by_cases e : j = i
        · rw [e]; exact h
        · exact hall j (by omega))
      have hno : letB (s.get! i).toNat = false → Ev (fun _ => some false) (nameB s) := fun h => now (by
        rw [name_iff, decide_eq_false (p := ∀ i, i < s.size → letB (s.get! i).toNat = true) (fun h2 => by have := h2 i hil; rw [h] at this; cases this), Bool.false_and])
      obtain ⟨c, hcc⟩ : ∃ c, bt s (i : Int) = c := ⟨_, rfl⟩
      obtain ⟨g, hg⟩ : ∃ g, (s.get! i).toNat = g := ⟨_, rfl⟩
      rw [hcc] at hc hr ⊢
      rw [hg] at hc hgo hno
      have hl : letB g = true ↔ ((97 ≤ c ∧ c ≤ 122) ∨ (48 ≤ c ∧ c ≤ 57) ∨ c = 46 ∨ c = 45 ∨ c = 95) := by
        simp only [letB, Bool.or_eq_true, Bool.and_eq_true, decide_eq_true_eq]
        omega
      have hl2 : letB g = false ↔ ¬ ((97 ≤ c ∧ c ≤ 122) ∨ (48 ≤ c ∧ c ≤ 57) ∨ c = 46 ∨ c = 45 ∨ c = 95) := by
        rw [← hl]
        cases letB g <;> simp
      rw [hl] at hgo
      rw [hl2] at hno
      have hcases : c < 45 ∨ c = 45 ∨ c = 46 ∨ c = 47 ∨ (48 ≤ c ∧ c ≤ 57) ∨ (58 ≤ c ∧ c ≤ 94) ∨ c = 95 ∨ c = 96 ∨ (97 ≤ c ∧ c ≤ 122) ∨ 122 < c := by omega
      rcases hcases with h | h | h | h | h | h | h | h | h | h
      all_goals
        repeat (first | refine pos (by omega) ?_ | refine neg (by omega) ?_)
        first | exact hgo (by omega) | exact hno (by omega)
  exact key s.size 0 (by omega) (fun j hj => by omega)
end Go.Proofs.Ytgdpabedlghiaaa.Name
