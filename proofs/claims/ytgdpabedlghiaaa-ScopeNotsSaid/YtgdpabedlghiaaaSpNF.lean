/- Own and printed texts, laid together. -/
import Derived.Test.YtgdpabedlghiaaaSpNA
import Derived.ProofKit
import Derived.Deep.Slices
import Derived.Test.YtgdpabedlghiaaaSpNE
/- What an argument reads as, opened kind by kind: out of the form's reading a value of the kind, whose cells it has. -/
namespace Go.Proofs.Ytgdpabedlghiaaa.Open
open Go.Proofs.Ytgdpabedlghiaaa.Base Go.RowKit Go.Proofs.YtgdpabedlghiaaaW.PrintWords Go.Proofs.YtgdpabedlghiaaaW.PrintLast Go.Proofs.YtgdpabedlghiaaaW.PrintMore

/-- With so much fuel, what type t reads as is a value of kind d. -/
def OpensN (P : Program) (n : Nat) (t : TypeId) {α : Type} (d : Kd α) (ok : α → Prop) : Prop :=
  ∀ (H : Type) (enc : TypeId × Value → H) (w : World) (base : Nat) (held : Bool) (cs : List Value) (x : DataW H × List MemPlace), DataW.trod enc P w base (fun _ => true) held n t cs = some x → ∃ v, d.K w v cs ∧ ok v
def Opens (P : Program) (t : TypeId) {α : Type} (d : Kd α) (ok : α → Prop) : Prop := ∀ n, OpensN P n t d ok

theorem opens_int {P : Program} {t : TypeId} {k : IntKind} (ht : P.underlying t = some (.int k)) : Opens P t (Kd.int k) (fun v => (Lit.int k v).wf = true) := by
  intro n H enc w base held cs x h
  obtain ⟨v, rfl, hw, _⟩ : ∃ v, cs = [.int k v] ∧ (Lit.int k v).wf = true ∧ True := by
    cases n with
    | zero => simp [DataW.trod] at h
    | succ n =>
      unfold DataW.trod at h
      rw [ht] at h
      split at h <;> simp_all
  exact ⟨v, rfl, hw⟩
theorem opens_bool {P : Program} {t : TypeId} (ht : P.underlying t = some .bool) : Opens P t Kd.bool (fun _ => True) := by
  intro n H enc w base held cs x h
  obtain ⟨v, rfl⟩ : ∃ v, cs = [.bool v] := by
    cases n with
    | zero => simp [DataW.trod] at h
    | succ n =>
      unfold DataW.trod at h
      rw [ht] at h
      split at h <;> simp_all
  exact ⟨v, rfl, trivial⟩
theorem opens_string {P : Program} {t : TypeId} (ht : P.underlying t = some .string) : Opens P t Kd.string (fun s => s.size ≤ maxLen) := by
  intro n H enc w base held cs x h
  obtain ⟨v, rfl, hv⟩ : ∃ v, cs = [.string v] ∧ v.size ≤ maxLen := by
    cases n with
    | zero => simp [DataW.trod] at h
    | succ n =>
      unfold DataW.trod at h
      rw [ht] at h
      split at h <;> simp_all
  exact ⟨v, rfl, hv⟩
theorem choose_list {α : Type} {p : Nat → α → Prop} : ∀ n, (∀ i, i < n → ∃ v, p i v) → ∃ xs : List α, xs.length = n ∧ ∀ i v, xs[i]? = some v → p i v := by
  intro n
  induction n with
  | zero => intro _; exact ⟨[], rfl, fun i v h => by simp at h⟩
  | succ n ih =>
    intro h
    obtain ⟨xs, hl, hx⟩ := ih (fun i hi => h i (by omega))
    obtain ⟨v, hv⟩ := h n (by omega)
    refine ⟨xs ++ [v], by simp [hl], fun i u hu => ?_⟩
    rcases Nat.lt_or_ge i xs.length with hi | hi
    · rw [List.getElem?_append_left hi] at hu; exact hx i u hu
    · have hi' : i = n := by
        have := (List.getElem?_eq_some_iff.1 hu).1
        rw [List.length_append, List.length_singleton] at this
        omega
      subst hi'
      have : v = u := by rw [← hl] at hu; simpa using hu
      subst this
      exact hv
theorem opensN_slice {P : Program} {n : Nat} {t e : TypeId} {α : Type} {d : Kd α} {ok : α → Prop} (ht : P.underlying t = some (.slice e)) (hc : P.cellsOf e = d.sz) (hd : OpensN P n e d ok) : OpensN P (n + 1) t (Kd.slice e d) (fun xs => ∀ x ∈ xs, ok x) := by
  intro H enc w base held cs x h
  rcases DataW.trod_slice ht h with ⟨rfl, _⟩ | ⟨a, len, cap, elems, rest, m, hm, rfl, _, hb, hl, hmx, hel, hi, _⟩
  · exact ⟨[], ⟨none, 0, rfl, by simp, Kd.C_nil _ _⟩, fun x hx => by cases hx⟩
  · have hmn : m = n := by omega
    subst hmn
    obtain ⟨xs, hxl, hxs⟩ := choose_list (α := α) (p := fun i v => ok v ∧ ∃ c, c.length = d.sz ∧ d.K w v c ∧ ∀ j u, c[j]? = some u → w.cell? (a.add (i * d.sz + j)) = some u) len (fun i hil => by
      have h1 := hi i hil
      rw [List.getElem?_eq_getElem (by omega)] at h1
      obtain ⟨cs', h2, h3⟩ := Option.bind_eq_some_iff.1 h1
      obtain ⟨v, hv, hok⟩ := hd _ _ _ _ _ _ _ h3
      obtain ⟨_, h4, h5⟩ := World.cells?_some h2
      refine ⟨v, hok, cs', by rw [h4, hc], hv, fun j u hu => ?_⟩
      have hj : j < cs'.length := (List.getElem?_eq_some_iff.1 hu).1
      have h6 := h5 j (by omega)
      rw [hu, hc] at h6
      rw [← h6, Addr.add_add])
    refine ⟨xs, ⟨some a, cap, by rw [hxl], by omega, ?_⟩, fun x hx => ?_⟩
    · refine ⟨rfl, ?_, fun _ => ⟨a, rfl, fun j p hj => ?_⟩⟩
      · rw [hxl]; simp only [maxLen] at hmx; omega
      · exact (hxs j p hj).2
    · obtain ⟨i, hi, rfl⟩ := List.mem_iff_getElem.1 hx
      exact (hxs i _ (List.getElem?_eq_getElem hi)).1
theorem opens_slice {P : Program} {t e : TypeId} {α : Type} {d : Kd α} {ok : α → Prop} (ht : P.underlying t = some (.slice e)) (hc : P.cellsOf e = d.sz) (hd : Opens P e d ok) : Opens P t (Kd.slice e d) (fun xs => ∀ x ∈ xs, ok x) := by
  intro n
  cases n with
  | zero => intro H enc w base held cs x h; simp [DataW.trod] at h
  | succ n => exact opensN_slice ht hc (hd n)
/-- The fields of a struct from offset o on. -/
def OpensF (P : Program) (n : Nat) (fs : List Field) (o : Nat) {α : Type} (d : Kd α) (ok : α → Prop) : Prop :=
  ∀ (H : Type) (enc : TypeId × Value → H) (w : World) (base : Nat) (held : Bool) (cs : List Value) (xs : List (DataW H × List MemPlace)),
    cs.length = o + d.sz → fs.mapM (fun f => DataW.trod enc P w base (fun _ => true) held n f.type ((cs.drop f.offset).take (P.cellsOf f.type))) = some xs → ∃ v, d.K w v (cs.drop o) ∧ ok v
theorem opensF_one {P : Program} {n : Nat} {f : Field} {o : Nat} {α : Type} {d : Kd α} {ok : α → Prop} (ho : f.offset = o) (hc : P.cellsOf f.type = d.sz) (hd : OpensN P n f.type d ok) : OpensF P n [f] o d ok := by
  intro H enc w base held cs xs hl h
  have h1 := mapM_some_get h 0 f rfl
  cases hx : xs[0]? with
  | none => rw [List.getElem?_eq_none_iff] at hx; have := mapM_some_length h; simp at this; omega
  | some y =>
    rw [hx, ho, List.take_of_length_le (by rw [List.length_drop]; omega)] at h1
    exact hd _ _ _ _ _ _ _ h1
theorem opensF_cons {P : Program} {n : Nat} {f : Field} {fs : List Field} {o : Nat} {α β : Type} {d : Kd α} {d2 : Kd β} {ok : α → Prop} {ok2 : β → Prop} (ho : f.offset = o) (hc : P.cellsOf f.type = d.sz) (hd : OpensN P n f.type d ok) (hr : OpensF P n fs (o + d.sz) d2 ok2) : OpensF P n (f :: fs) o (Kd.pair d d2) (fun v => ok v.1 ∧ ok2 v.2) := by
  intro H enc w base held cs xs hl h
  rw [List.mapM_cons] at h
  obtain ⟨y, h1, h2⟩ := Option.bind_eq_some_iff.1 h
  obtain ⟨ys, h3, h4⟩ := Option.bind_eq_some_iff.1 h2
  have hsz : (Kd.pair d d2).sz = d.sz + d2.sz := rfl
  rw [ho, hc] at h1
  obtain ⟨v1, k1, o1⟩ := hd _ _ _ _ _ _ _ h1
  obtain ⟨v2, k2, o2⟩ := hr _ _ _ _ _ _ _ (by rw [hl, hsz]; omega) h3
  refine ⟨(v1, v2), ⟨(cs.drop o).take d.sz, cs.drop (o + d.sz), ?_, k1, k2⟩, o1, o2⟩
  rw [← List.drop_drop, List.take_append_drop]
theorem opensN_struct {P : Program} {n : Nat} {t : TypeId} {fs : Array Field} {α : Type} {d : Kd α} {ok : α → Prop} (ht : P.underlying t = some (.struct fs)) (hc : P.cellsOf t = d.sz) (hd : OpensF P n fs.toList 0 d ok) : OpensN P (n + 1) t d ok := by
  intro H enc w base held cs x h
  unfold DataW.trod at h
  rw [ht] at h
  have h' : (if cs.length = P.cellsOf t then (fs.toList.mapM fun f => DataW.trod enc P w base (fun _ => true) held n f.type ((cs.drop f.offset).take (P.cellsOf f.type))).map fun xs => (DataW.agg (xs.map (·.1)), xs.flatMap (·.2)) else none) = some x := by
    revert h
    split <;> simp_all
  split at h'
  · next hl =>
    obtain ⟨xs, h1, _⟩ := Option.map_eq_some_iff.1 h'
    have := hd _ _ _ _ _ _ _ (by rw [hl, hc]; omega) h1
    simpa using this
  · cases h'
theorem opens_struct {P : Program} {t : TypeId} {fs : Array Field} {α : Type} {d : Kd α} {ok : α → Prop} (ht : P.underlying t = some (.struct fs)) (hc : P.cellsOf t = d.sz) (hd : ∀ n, OpensF P n fs.toList 0 d ok) : Opens P t d ok := by
  intro n
  cases n with
  | zero => intro H enc w base held cs x h; simp [DataW.trod] at h
  | succ n => exact opensN_struct ht hc (hd n)
theorem opensN_iso {P : Program} {n : Nat} {t : TypeId} {α β : Type} {d : Kd α} {ok : α → Prop} (f : β → α) (g : α → β) (hg : ∀ a, f (g a) = a) (hd : OpensN P n t d ok) : OpensN P n t (Kd.iso d f) (fun b => ok (f b)) := by
  intro H enc w base held cs x h
  obtain ⟨v, hk, ho⟩ := hd _ _ _ _ _ _ _ h
  exact ⟨g v, by show d.K w (f (g v)) cs; rw [hg]; exact hk, by show ok (f (g v)); rw [hg]; exact ho⟩
theorem opens_iso {P : Program} {t : TypeId} {α β : Type} {d : Kd α} {ok : α → Prop} (f : β → α) (g : α → β) (hg : ∀ a, f (g a) = a) (hd : Opens P t d ok) : Opens P t (Kd.iso d f) (fun b => ok (f b)) := fun n => opensN_iso f g hg (hd n)
theorem opens_ok {P : Program} {t : TypeId} {α : Type} {d : Kd α} {ok ok' : α → Prop} (hd : Opens P t d ok) (h : ∀ v, ok v → ok' v) : Opens P t d ok' := by
  intro n H enc w base held cs x hx
  obtain ⟨v, hk, ho⟩ := hd n _ _ _ _ _ _ _ hx
  exact ⟨v, hk, h v ho⟩
/-- An argument, opened. -/
theorem Opens.arg {P : Program} {t : TypeId} {α : Type} {d : Kd α} {ok : α → Prop} (h : Opens P t d ok) {H : Type} {enc : TypeId × Value → H} {w : World} {base : Nat} {held : Bool} {v : Value} {D : DataW H} {ps : List MemPlace} (ht : DataW.Trod enc P w base (fun _ => true) held t v D ps) : ∃ x, d.K w x v.cells.toList ∧ ok x := by
  obtain ⟨n, hn⟩ := ht
  exact h n _ _ _ _ _ _ _ hn
end Go.Proofs.Ytgdpabedlghiaaa.Open
/- An argument that is a scope. -/
namespace Go.Proofs.Ytgdpabedlghiaaa.Scope
set_option linter.unusedVariables false
set_option linter.unusedSimpArgs false
open Go.RowKit Go.Proofs.YtgdpabedlghiaaaW.PrintWords Go.Proofs.Ytgdpabedlghiaaa.PZ
/-- An argument that is a scope, opened. -/
theorem opensN_scope : ∀ n, Open.OpensN Try.prog n 40 k40 (fun _ => True) := by
  intro n
  induction n using Nat.strongRecOn with
  | _ n ih =>
  cases n with
  | zero => intro H enc w base held cs x h; simp [DataW.trod] at h
  | succ n =>
    have hs : Open.OpensN Try.prog n 38 (Kd.slice 40 k40) (fun _ => True) := by
      cases n with
      | zero => intro H enc w base held cs x h; simp [DataW.trod] at h
      | succ n =>
        intro H enc w base held cs x h
        obtain ⟨v, hv, _⟩ := Open.opensN_slice Try.underlying38 (by kernel_rfl) (ih n (by omega)) H enc w base held cs x h
        exact ⟨v, hv, trivial⟩
    intro H enc w base held cs x h
    obtain ⟨⟨op, nm, fr, to_, kids⟩, ⟨_, _, e0, rfl, _, _, e1, rfl, _, _, e2, rfl, _, _, e3, rfl, ⟨A, c, rfl, hc, hr⟩⟩, _⟩ := Open.opensN_struct Try.underlying40 (by kernel_rfl) (Open.opensF_cons rfl (by kernel_rfl) (Open.opens_int Try.underlying3 n) (Open.opensF_cons rfl (by kernel_rfl) (Open.opens_string Try.underlying9 n) (Open.opensF_cons rfl (by kernel_rfl) (Open.opens_int Try.underlying3 n) (Open.opensF_cons rfl (by kernel_rfl) (Open.opens_int Try.underlying3 n) (Open.opensF_one rfl (by kernel_rfl) hs))))) H enc w base held cs x h
    subst e3 e2 e1
    rw [e0]
    exact ⟨⟨op, nm, fr, to_, kids⟩, k40_mk w ⟨op, nm, fr, to_, kids⟩ hc hr, trivial⟩
theorem opens_scope : Open.Opens Try.prog 40 k40 (fun _ => True) := opensN_scope
end Go.Proofs.Ytgdpabedlghiaaa.Scope
/- The law ScopeNots. -/
namespace Go.Proofs.Ytgdpabedlghiaaa.Scope
set_option linter.unusedVariables false
open Go.RowKit Go.Proofs.YtgdpabedlghiaaaW.PrintWords Go.Proofs.Ytgdpabedlghiaaa.PZ
abbrev DRecN : Kd (ByteArray × ByteArray × ByteArray × ByteArray × Int × Int) := Kd.pair Kd.string (Kd.pair Kd.string (Kd.pair Kd.string (Kd.pair Kd.string (Kd.pair (Kd.int .i64) (Kd.int .i64)))))
theorem notsWalk (w : World) (x : S40) (cs : Array Value) (hK : k40.K w x cs.toList) (_ : True) (y : S40) (cy : Array Value) (hL : k40.K w y cy.toList) (_ : True) (r : ByteArray × ByteArray × ByteArray × ByteArray × Int × Int) (cr : Array Value) (hR : DRecN.K w r cr.toList)
    (_ : r.1.size ≤ maxLen ∧ r.2.1.size ≤ maxLen ∧ r.2.2.1.size ≤ maxLen ∧ r.2.2.2.1.size ≤ maxLen ∧ (Lit.int .i64 r.2.2.2.2.1).wf = true ∧ (Lit.int .i64 r.2.2.2.2.2).wf = true) :
    Calls Try.prog 6 #[.agg cs, .agg cy, .agg cr] w fun e w' => e = .returned (.bool true) ∧ Below w.heap.size w w' := by
  obtain ⟨A, c, e0, hc, hr⟩ := k40_open hK
  have e : cs = #[.int .i64 x.f0, .string x.f1, .int .i64 x.f2, .int .i64 x.f3, .slice A x.f4.length c] := Array.toList_inj.1 e0
  subst e
  obtain ⟨B, d, f0, hd, hs⟩ := k40_open hL
  have e1 : cy = #[.int .i64 y.f0, .string y.f1, .int .i64 y.f2, .int .i64 y.f3, .slice B y.f4.length d] := Array.toList_inj.1 f0
  subst e1
  obtain ⟨q0, q1, q2, q3, t, u⟩ := r
  obtain ⟨_, _, f0, rfl, _, _, f1, rfl, _, _, f2, rfl, _, _, f3, rfl, _, _, f4, rfl, rfl⟩ := hR
  subst f4 f3 f2 f1
  have e2 : cr = #[.string q0, .string q1, .string q2, .string q3, .int .i64 t, .int .i64 u] := Array.toList_inj.1 f0
  subst e2
  exact nots_walk w x y A c B d hr hc hs hd q0 q1 q2 q3 t u
end Go.Proofs.Ytgdpabedlghiaaa.Scope
