/- Own and printed texts, laid together. -/
import Derived.Test.YtgohmganimamcaaProg
import Derived.Below
import Derived.Deep.Draws
import Derived.Deep.AppendLies
import Derived.Maps.AppendAt
import Derived.OwnWalk
import Derived.Laws.BytesArg
import Derived.Laws.MakeOwn
import Derived.Laws.OwnMore
import Derived.Deep.OwnRows
import Derived.Tactics
import Derived.Lib.ConvBytes
import Derived.Laws.Slices
import Derived.WalkKit
import Derived.KernelRfl
import Derived.RowKit3
import Derived.Deep.LoopGhost
import Derived.Deep.QuietTactic
import Derived.BigQuiet
import Derived.WideLaws
import Derived.Deep.DeepCutAuto
import Derived.Deep.CutBlock
import Derived.Deep.RegionHeld3
import Derived.Laws.Rows
import Derived.Lib.AppendStr
import Derived.ArgAppend
import Derived.Laws.IdiomCopy
import Derived.OrdersHeld
import Derived.Laws.BitsLemmas
import Derived.RowKit
import Derived.Test.YtgohmganimamcaaTpSA
import Derived.Test.YtgohmganimamcaaTpSB
import Derived.Lib.SlBytesConst
import Derived.ProofKit
import Derived.Deep.Slices
import Derived.Great.BuildSlice
import Derived.Deep.WholeRow
import Derived.Laws.CopyOwn
import Derived.Deep.RegionLaw
import Derived.Deep.DeepMust
import Derived.WalkSpells
/- What every text of this claim stands on: the imports, and a few laws on kinds. -/
namespace Go.Proofs.Ytgohmganimamcaa.Base
open Go.RowKit Go.Proofs.YtgohmganimamcaaW.PrintWords Go.Proofs.YtgohmganimamcaaW.PrintLast Go.Proofs.YtgohmganimamcaaW.PrintMore

/-- Bytes that are read stay so where another block alone is written. -/
theorem reads_keep {w w1 : World} {g : Nat} {k : IntKind} {A : Option Addr} {xs : List Int} (h : Kd.C (Kd.int k) w A xs.length xs) (hk : KeepBut w w1 g none) (hne : ∀ a, A = some a → 0 < xs.length → a.block ≠ g) : Kd.C (Kd.int k) w1 A xs.length xs := by
  have h' := Kd.reads_of_C (d := (0 : Int)) h
  refine Kd.C_of_reads (d := (0 : Int)) ⟨h'.1, h'.2.1, fun h0 => ?_⟩
  obtain ⟨ad, e, hc⟩ := h'.2.2 h0
  refine ⟨ad, e, fun j hj => keep_cell hk (hc j hj) ?_⟩
  rw [show (ad.add j).block = ad.block from by unfold Addr.add; split <;> rfl]
  exact hne ad e h0
theorem keep_set (w : World) (g j : Nat) (v : Value) : KeepBut w (w.setCell ⟨g, j, none⟩ v) g none := (KeepBut.refl w g none).set_ j v
/-- Numbers do not lie in a block whose cells are none. -/
theorem reads_ne {w : World} {g T : Nat} {cs : Array Value} {k : IntKind} {A : Option Addr} {xs : List Int} (hb : w.heap[g]? = some (.cells cs T (0, 0))) (hcs : ∀ i : Nat, ∀ v, cs[i]? = some v → ∀ n, v ≠ .int k n) (h : Kd.C (Kd.int k) w A xs.length xs) : ∀ a, A = some a → 0 < xs.length → a.block ≠ g := by
  intro a ha h0 hg
  have h' := Kd.reads_of_C (d := (0 : Int)) h
  obtain ⟨ad, e, hc⟩ := h'.2.2 h0
  rw [ha] at e
  injection e with e
  subst e
  have h1 := hc 0 h0
  have e0 : (a.add 0).block = g := by rw [show (a.add 0).block = a.block from by unfold Addr.add; split <;> rfl]; exact hg
  unfold World.cell? at h1
  rw [e0, hb] at h1
  dsimp only at h1
  split at h1
  · cases h1
  · exact hcs _ _ h1 _ rfl
/-- Bytes that are read. -/
abbrev Rb (w : World) (A : Option Addr) (xs : List Int) : Prop := Kd.C (Kd.int .u8) w A xs.length xs
/-- Bytes of the call's own. -/
abbrev Ob (w : World) (base : Nat) (v : Value) (xs : List Int) : Prop := Kd.R (Kd.int .u8) 5 w base (fun _ => True) v xs
theorem info_u8 : (Try.prog.info? 5).map (fun i => (i.zero, i.size, i.bytes)) = some (some (.int .u8 0), 1, 1) := by kernel_rfl
theorem rd_nat' (xs : List Int) (i : Nat) (h : i < xs.length) : rd xs (i : Int) = xs[i] := by simp [rd, List.getD_eq_getElem?_getD, List.getElem?_eq_getElem h]
/-- A row of bytes of the call's own, read. -/
theorem Ob.reads {w : World} {base : Nat} {v : Value} {xs : List Int} (h : Ob w base v xs) : ∃ A c, v = .slice A xs.length c ∧ xs.length ≤ c ∧ Rb w A xs := Kd.R_reads h
theorem Rb.at0 {w : World} {A : Option Addr} {x : Int} {xs : List Int} (h : Rb w A (x :: xs)) : ∃ ad, A = some ad ∧ w.cell? ad = some (.int .u8 x) := by
  obtain ⟨ad, e, hc⟩ := Kd.at_int h 0 (by omega) (by simp)
  exact ⟨ad, e, by simpa [rd, Addr.add] using hc⟩
/-- The bytes of a text that is written out, read. -/
theorem const_reads (w : World) (xs : List Int) (C : Array Value) (fr : Nat × Nat) (hC : C = (nums .u8 xs).toArray) (hm : xs.length ≤ 9223372036854775807) : Rb (w.alloc (.cells C 5 fr)) (some ⟨w.heap.size, 0, none⟩) xs := by
  subst hC
  refine Kd.C_of_reads (d := (0 : Int)) ⟨rfl, hm, fun _ => ⟨_, rfl, fun j hj => ?_⟩⟩
  have e : (⟨w.heap.size, 0, none⟩ : Addr).add j = ⟨w.heap.size, j, none⟩ := add_plain _ _
  rw [e]
  have hb : (w.alloc (.cells (nums .u8 xs).toArray 5 fr)).heap[w.heap.size]? = some (.cells (nums .u8 xs).toArray 5 fr) := heap_alloc_new _ _
  unfold World.cell?
  dsimp only
  rw [hb]
  simp [nums, List.getElem?_eq_getElem hj, List.getD_eq_getElem?_getD]
/-- Rows of bytes that are read. -/
abbrev Rr (w : World) (A : Option Addr) (xs : List (List Int)) : Prop := Kd.C (Kd.slice 5 (Kd.int .u8)) w A xs.length xs
/-- A take of bytes that are read. -/
theorem Rb.take {w : World} {A : Option Addr} {xs : List Int} (h : Rb w A xs) (n : Nat) (hn : n ≤ xs.length) : Rb w A (xs.take n) := by
  have h5 := Kd.C_of_reads (d := (0 : Int)) (h1 := fun _ => rfl) (ReadsInt.take_ (Kd.reads_of_C (d := (0 : Int)) h) n hn)
  show Kd.C _ w A (xs.take n).length (xs.take n)
  rw [show (xs.take n).length = n from by rw [List.length_take]; omega]
  exact h5
theorem Rb.len {w : World} {A : Option Addr} {xs : List Int} (h : Rb w A xs) : xs.length ≤ 9223372036854775807 := (Kd.reads_of_C (d := (0 : Int)) h).2.1
end Go.Proofs.Ytgohmganimamcaa.Base
/- What an argument reads as, opened kind by kind: out of the form's reading a value of the kind, whose cells it has. -/
namespace Go.Proofs.Ytgohmganimamcaa.Open
open Go.Proofs.Ytgohmganimamcaa.Base Go.RowKit Go.Proofs.YtgohmganimamcaaW.PrintWords Go.Proofs.YtgohmganimamcaaW.PrintLast Go.Proofs.YtgohmganimamcaaW.PrintMore

/-- With so much fuel, what type t reads as is a value of kind d. -/
def OpensN (P : Program) (n : Nat) (t : TypeId) {α : Type} (d : Kd α) (ok : α → Prop) : Prop :=
  ∀ (H : Type) (enc : TypeId × Value → H) (w : World) (base : Nat) (held : Bool) (cs : List Value) (x : DataW H × List MemPlace), DataW.trod enc P w base (fun _ => true) held n t cs = some x → ∃ v, d.K w v cs ∧ ok v
def Opens (P : Program) (t : TypeId) {α : Type} (d : Kd α) (ok : α → Prop) : Prop := ∀ n, OpensN P n t d ok

theorem opens_int {P : Program} {t : TypeId} {k : IntKind} (ht : P.underlying t = some (.int k)) : Opens P t (Kd.int k) (fun v => (Lit.int k v).wf = true) := by
  intro n H enc w base held cs x h
  obtain ⟨v, rfl, hw, _⟩ : ∃ v, cs = [.int k v] ∧ (Lit.int k v).wf = true ∧ True := by
    cases n with
    | zero => simp [DataW.trod] at h
    | succ n =>
      unfold DataW.trod at h
      rw [ht] at h
      split at h <;> simp_all
  exact ⟨v, rfl, hw⟩
theorem choose_list {α : Type} {p : Nat → α → Prop} : ∀ n, (∀ i, i < n → ∃ v, p i v) → ∃ xs : List α, xs.length = n ∧ ∀ i v, xs[i]? = some v → p i v := by
  intro n
  induction n with
  | zero => intro _; exact ⟨[], rfl, fun i v h => by simp at h⟩
  | succ n ih =>
    intro h
    obtain ⟨xs, hl, hx⟩ := ih (fun i hi => h i (by omega))
    obtain ⟨v, hv⟩ := h n (by omega)
    refine ⟨xs ++ [v], by simp [hl], fun i u hu => ?_⟩
    rcases Nat.lt_or_ge i xs.length with hi | hi
    · rw [List.getElem?_append_left hi] at hu; exact hx i u hu
    · have hi' : i = n := by
        have := (List.getElem?_eq_some_iff.1 hu).1
        rw [List.length_append, List.length_singleton] at this
        omega
      subst hi'
      have : v = u := by rw [← hl] at hu; simpa using hu
      subst this
      exact hv
theorem opensN_slice {P : Program} {n : Nat} {t e : TypeId} {α : Type} {d : Kd α} {ok : α → Prop} (ht : P.underlying t = some (.slice e)) (hc : P.cellsOf e = d.sz) (hd : OpensN P n e d ok) : OpensN P (n + 1) t (Kd.slice e d) (fun xs => ∀ x ∈ xs, ok x) := by
  intro H enc w base held cs x h
  rcases DataW.trod_slice ht h with ⟨rfl, _⟩ | ⟨a, len, cap, elems, rest, m, hm, rfl, _, hb, hl, hmx, hel, hi, _⟩
  · exact ⟨[], ⟨none, 0, rfl, by simp, Kd.C_nil _ _⟩, fun x hx => by cases hx⟩
  · have hmn : m = n := by omega
    subst hmn
    obtain ⟨xs, hxl, hxs⟩ := choose_list (α := α) (p := fun i v => ok v ∧ ∃ c, c.length = d.sz ∧ d.K w v c ∧ ∀ j u, c[j]? = some u → w.cell? (a.add (i * d.sz + j)) = some u) len (fun i hil => by
      have h1 := hi i hil
      rw [List.getElem?_eq_getElem (by omega)] at h1
      obtain ⟨cs', h2, h3⟩ := Option.bind_eq_some_iff.1 h1
      obtain ⟨v, hv, hok⟩ := hd _ _ _ _ _ _ _ h3
      obtain ⟨_, h4, h5⟩ := World.cells?_some h2
      refine ⟨v, hok, cs', by rw [h4, hc], hv, fun j u hu => ?_⟩
      have hj : j < cs'.length := (List.getElem?_eq_some_iff.1 hu).1
      have h6 := h5 j (by omega)
      rw [hu, hc] at h6
      rw [← h6, Addr.add_add])
    refine ⟨xs, ⟨some a, cap, by rw [hxl], by omega, ?_⟩, fun x hx => ?_⟩
    · refine ⟨rfl, ?_, fun _ => ⟨a, rfl, fun j p hj => ?_⟩⟩
      · rw [hxl]; simp only [maxLen] at hmx; omega
      · exact (hxs j p hj).2
    · obtain ⟨i, hi, rfl⟩ := List.mem_iff_getElem.1 hx
      exact (hxs i _ (List.getElem?_eq_getElem hi)).1
theorem opens_slice {P : Program} {t e : TypeId} {α : Type} {d : Kd α} {ok : α → Prop} (ht : P.underlying t = some (.slice e)) (hc : P.cellsOf e = d.sz) (hd : Opens P e d ok) : Opens P t (Kd.slice e d) (fun xs => ∀ x ∈ xs, ok x) := by
  intro n
  cases n with
  | zero => intro H enc w base held cs x h; simp [DataW.trod] at h
  | succ n => exact opensN_slice ht hc (hd n)
/-- The fields of a struct from offset o on. -/
def OpensF (P : Program) (n : Nat) (fs : List Field) (o : Nat) {α : Type} (d : Kd α) (ok : α → Prop) : Prop :=
  ∀ (H : Type) (enc : TypeId × Value → H) (w : World) (base : Nat) (held : Bool) (cs : List Value) (xs : List (DataW H × List MemPlace)),
    cs.length = o + d.sz → fs.mapM (fun f => DataW.trod enc P w base (fun _ => true) held n f.type ((cs.drop f.offset).take (P.cellsOf f.type))) = some xs → ∃ v, d.K w v (cs.drop o) ∧ ok v
theorem opensF_one {P : Program} {n : Nat} {f : Field} {o : Nat} {α : Type} {d : Kd α} {ok : α → Prop} (ho : f.offset = o) (hc : P.cellsOf f.type = d.sz) (hd : OpensN P n f.type d ok) : OpensF P n [f] o d ok := by
  intro H enc w base held cs xs hl h
  have h1 := mapM_some_get h 0 f rfl
  cases hx : xs[0]? with
  | none => rw [List.getElem?_eq_none_iff] at hx; have := mapM_some_length h; simp at this; omega
  | some y =>
    rw [hx, ho, List.take_of_length_le (by rw [List.length_drop]; omega)] at h1
    exact hd _ _ _ _ _ _ _ h1
theorem opensF_cons {P : Program} {n : Nat} {f : Field} {fs : List Field} {o : Nat} {α β : Type} {d : Kd α} {d2 : Kd β} {ok : α → Prop} {ok2 : β → Prop} (ho : f.offset = o) (hc : P.cellsOf f.type = d.sz) (hd : OpensN P n f.type d ok) (hr : OpensF P n fs (o + d.sz) d2 ok2) : OpensF P n (f :: fs) o (Kd.pair d d2) (fun v => ok v.1 ∧ ok2 v.2) := by
  intro H enc w base held cs xs hl h
  rw [List.mapM_cons] at h
  obtain ⟨y, h1, h2⟩ := Option.bind_eq_some_iff.1 h
  obtain ⟨ys, h3, h4⟩ := Option.bind_eq_some_iff.1 h2
  have hsz : (Kd.pair d d2).sz = d.sz + d2.sz := rfl
  rw [ho, hc] at h1
  obtain ⟨v1, k1, o1⟩ := hd _ _ _ _ _ _ _ h1
  obtain ⟨v2, k2, o2⟩ := hr _ _ _ _ _ _ _ (by rw [hl, hsz]; omega) h3
  refine ⟨(v1, v2), ⟨(cs.drop o).take d.sz, cs.drop (o + d.sz), ?_, k1, k2⟩, o1, o2⟩
  rw [← List.drop_drop, List.take_append_drop]
theorem opensN_struct {P : Program} {n : Nat} {t : TypeId} {fs : Array Field} {α : Type} {d : Kd α} {ok : α → Prop} (ht : P.underlying t = some (.struct fs)) (hc : P.cellsOf t = d.sz) (hd : OpensF P n fs.toList 0 d ok) : OpensN P (n + 1) t d ok := by
  intro H enc w base held cs x h
  unfold DataW.trod at h
  rw [ht] at h
  have h' : (if cs.length = P.cellsOf t then (fs.toList.mapM fun f => DataW.trod enc P w base (fun _ => true) held n f.type ((cs.drop f.offset).take (P.cellsOf f.type))).map fun xs => (DataW.agg (xs.map (·.1)), xs.flatMap (·.2)) else none) = some x := by
    revert h
    split <;> simp_all
  split at h'
  · next hl =>
    obtain ⟨xs, h1, _⟩ := Option.map_eq_some_iff.1 h'
    have := hd _ _ _ _ _ _ _ (by rw [hl, hc]; omega) h1
    simpa using this
  · cases h'
/-- An argument, opened. -/
theorem Opens.arg {P : Program} {t : TypeId} {α : Type} {d : Kd α} {ok : α → Prop} (h : Opens P t d ok) {H : Type} {enc : TypeId × Value → H} {w : World} {base : Nat} {held : Bool} {v : Value} {D : DataW H} {ps : List MemPlace} (ht : DataW.Trod enc P w base (fun _ => true) held t v D ps) : ∃ x, d.K w x v.cells.toList ∧ ok x := by
  obtain ⟨n, hn⟩ := ht
  exact h n _ _ _ _ _ _ _ hn
end Go.Proofs.Ytgohmganimamcaa.Open
/- Small plain laws on rounds, numbers and lists. -/
namespace Go.Proofs.Ytgohmganimamcaa.Aid
open Go.RowKit Go.Proofs.YtgohmganimamcaaW.PrintWords Go.Proofs.YtgohmganimamcaaW.PrintLast

theorem pos {α : Type} {c : Prop} [Decidable c] {a b : Nat → Option α} {r : α} (h : c) (e : Ev a r) : Ev (fun k => if c then a k else b k) r := by
  simpa only [if_pos h] using e
theorem neg {α : Type} {c : Prop} [Decidable c] {a b : Nat → Option α} {r : α} (h : ¬ c) (e : Ev b r) : Ev (fun k => if c then a k else b k) r := by
  simpa only [if_neg h] using e
theorem now {α : Type} {r s : α} (h : r = s) : Ev (fun _ => some r) s := h ▸ Ev.now r
theorem evBind {α β : Type} {g : Nat → Option α} {f : Nat → α → Option β} {a : α} {r : β} (h : Ev g a) (k : Ev (fun n => f n a) r) : Ev (fun n => (g n).bind (f n)) r := h.bind k
theorem bindSome {α β : Type} {o : Option α} {f : Nat → α → Option β} {a : α} {r : β} (h : o = some a) (k : Ev (fun n => f n a) r) : Ev (fun n => o.bind (f n)) r := by
  subst h; exact k
theorem w64 {x : Int} (h0 : -9223372036854775808 ≤ x) (h1 : x ≤ 9223372036854775807) : wrap64 x = x := by unfold wrap64; omega
theorem u64 {x : Int} (h0 : 0 ≤ x) (h1 : x ≤ 18446744073709551615) : IntKind.u64.wrap x = x := IntWalk.u64_in x ⟨h0, h1⟩
theorem rd_nat (xs : List Int) (i : Nat) (h : i < xs.length) : rd xs (i : Int) = xs[i] := by
  simp [rd, List.getD_eq_getElem?_getD, List.getElem?_eq_getElem h]
theorem drop_cons {α : Type} (xs : List α) (i : Nat) (h : i < xs.length) : xs.drop i = xs[i] :: xs.drop (i + 1) := List.drop_eq_getElem_cons h
theorem inc {i n : Nat} (h : i < n) (hn : n ≤ 4611686018427387904) : wrap64 ((i : Int) + 1) = ((i + 1 : Nat) : Int) := by rw [w64 (by omega) (by omega)]; rfl
end Go.Proofs.Ytgohmganimamcaa.Aid
/- What a reader of bytes answers, in plain words: its state is the bytes that are left, or that it failed. -/
namespace Go.Proofs.Ytgohmganimamcaa.TlvPlain
open Go.Proofs.Ytgohmganimamcaa.Base Go.RowKit Go.Proofs.YtgohmganimamcaaW.PrintWords

def U8 (b : List Int) : Prop := ∀ x ∈ b, 0 ≤ x ∧ x ≤ 255
theorem U8.take {b : List Int} (h : U8 b) (n : Nat) : U8 (b.take n) := fun x hx => h x (List.mem_of_mem_take hx)
theorem U8.drop {b : List Int} (h : U8 b) (n : Nat) : U8 (b.drop n) := fun x hx => h x (List.mem_of_mem_drop hx)
theorem U8.nil : U8 [] := fun _ h => by cases h
theorem U8.append {a b : List Int} (h : U8 a) (k : U8 b) : U8 (a ++ b) := fun x hx => (List.mem_append.1 hx).elim (h x) (k x)
theorem U8.cons {x : Int} {b : List Int} (h : 0 ≤ x ∧ x ≤ 255) (k : U8 b) : U8 (x :: b) := fun y hy => (List.mem_cons.1 hy).elim (fun e => e ▸ h) (k y)
theorem U8.head {x : Int} {b : List Int} (h : U8 (x :: b)) : 0 ≤ x ∧ x ≤ 255 := h x (List.mem_cons_self ..)
theorem U8.tail {x : Int} {b : List Int} (h : U8 (x :: b)) : U8 b := fun y hy => h y (List.mem_cons_of_mem _ hy)

def takeO (st : Option (List Int)) (n : Int) : List Int × Option (List Int) :=
  match st with
  | some bs => if 0 ≤ n ∧ n ≤ bs.length then (bs.take n.toNat, some (bs.drop n.toNat)) else ([], none)
  | none => ([], none)
/-- The number of bytes, the highest first. -/
def valueB (l : List Int) : Int := l.foldl (fun n c => n * 256 + c) 0
def numO (st : Option (List Int)) : Int × Option (List Int) :=
  match st with
  | some (x :: r) =>
    if x > 8 then (0, none) else
    if (r.length : Int) < x then (0, none) else
    if 0 < x ∧ r.getD 0 0 = 0 then (0, none) else (valueB (r.take x.toNat), some (r.drop x.toNat))
  | _ => (0, none)
def countO (st : Option (List Int)) (most : Int) : Int × Option (List Int) :=
  if most < 0 ∨ (numO st).1 > most then (0, none) else numO st
def textO (st : Option (List Int)) (most : Int) : List Int × Option (List Int) := takeO (countO st most).2 (countO st most).1
def leftO (st : Option (List Int)) : Int := match st with | some bs => bs.length | none => 0

theorem valueB_snoc (l : List Int) (c : Int) : valueB (l ++ [c]) = valueB l * 256 + c := by simp [valueB]
theorem valueB_range {l : List Int} (h : U8 l) : 0 ≤ valueB l ∧ valueB l < 256 ^ l.length := by
  have H : ∀ n (l : List Int), l.length = n → U8 l → 0 ≤ valueB l ∧ valueB l < 256 ^ l.length := by
    intro n
    induction n with
    | zero =>
      intro l hl _
      have : l = [] := List.length_eq_zero_iff.1 hl
      subst this
      simp [valueB]
    | succ n ih =>
      intro l hl hu
      have hne : l ≠ [] := by intro e; rw [e] at hl; cases hl
      rw [← List.dropLast_concat_getLast hne, valueB_snoc]
      have h1 := ih l.dropLast (by simp [hl]) (fun x hx => hu x ((List.dropLast_sublist l).subset hx))
      have h2 := hu (l.getLast hne) (List.getLast_mem hne)
      rw [List.length_append, List.length_singleton, Int.pow_succ]
      omega
  exact H _ l rfl h
theorem valueB_u64 {l : List Int} (h : U8 l) (hl : l.length ≤ 8) : 0 ≤ valueB l ∧ valueB l ≤ 18446744073709551615 := by
  have := valueB_range h
  have key : ∀ n : Nat, n ≤ 8 → (256 : Int) ^ n ≤ 18446744073709551616 := by
    intro n hn
    have : n = 0 ∨ n = 1 ∨ n = 2 ∨ n = 3 ∨ n = 4 ∨ n = 5 ∨ n = 6 ∨ n = 7 ∨ n = 8 := by omega
    rcases this with rfl | rfl | rfl | rfl | rfl | rfl | rfl | rfl | rfl <;> decide +kernel
  have := key _ hl
  omega
/-- One byte more at the end: in words of 64 bits. -/
theorem or_byte (n c : Int) (hn0 : 0 ≤ n) (hn : n * 256 + 255 ≤ 18446744073709551615) (hc0 : 0 ≤ c) (hc : c ≤ 255) : Go.bits .or .u64 (n * 256) c = n * 256 + c := by
  obtain ⟨a, rfl⟩ := Int.eq_ofNat_of_zero_le hn0
  obtain ⟨b, rfl⟩ := Int.eq_ofNat_of_zero_le hc0
  have e1 : BitVec.ofInt IntKind.u64.bits ((a : Int) * 256) = BitVec.ofNat 64 (a * 256) := by
    rw [show ((a : Int) * 256) = ((a * 256 : Nat) : Int) from by omega]; rfl
  have e2 : BitVec.ofInt IntKind.u64.bits (b : Int) = BitVec.ofNat 64 b := rfl
  have e3 : (BitVec.ofNat 64 (a * 256) ||| BitVec.ofNat 64 b).toNat = a * 256 + b := by
    rw [BitVec.toNat_or, BitVec.toNat_ofNat, BitVec.toNat_ofNat, Nat.mod_eq_of_lt (by omega), Nat.mod_eq_of_lt (by omega)]
    have := Nat.shiftLeft_add_eq_or_of_lt (i := 8) (b := b) (show b < 2 ^ 8 by omega) a
    rw [Nat.shiftLeft_eq] at this
    exact this.symm
  unfold Go.bits
  simp only [e1, e2]
  show IntKind.u64.wrap (((BitVec.ofNat 64 (a * 256) ||| BitVec.ofNat 64 b : BitVec 64).toNat : Nat) : Int) = _
  rw [e3]
  exact IntWalk.u64_in _ (by omega)
theorem numO_range {st : Option (List Int)} (hu : ∀ bs, st = some bs → U8 bs) : 0 ≤ (numO st).1 ∧ (numO st).1 ≤ 18446744073709551615 := by
  unfold numO
  split
  · next x r =>
    split
    · simp
    · split
      · simp
      · split
        · simp
        · exact valueB_u64 ((hu _ rfl).tail.take _) (by rw [List.length_take]; omega)
  · simp
end Go.Proofs.Ytgohmganimamcaa.TlvPlain
-- printed for this claim by a program (pall.sh)
-- mended by fixpz.py
namespace Go.Proofs.Ytgohmganimamcaa.PZ
open Go.RowKit Go.Proofs.YtgohmganimamcaaW.PrintWords Go.Proofs.YtgohmganimamcaaW.PrintLast Go.Proofs.YtgohmganimamcaaW.PrintMore
attribute [local go_sem] max2_int min2_int max_two min_two max_three min_three max_four min_four   -- for this text's walks alone
set_option linter.unusedVariables false
set_option linter.unusedSimpArgs false



def errW : Option Int → Value
 | none => .nilIface
 | some c => .iface 0 (.int .i64 c)
theorem errW_none : errW none = .nilIface := rfl
theorem errW_some (c : Int) : errW (some c) = .iface 0 (.int .i64 c) := rfl

theorem info5 : (Try.prog.info? 5).map (fun i => (i.zero, i.size, i.bytes)) = some (some (.int .u8 0), 1, 1) := by kernel_rfl
theorem info26 : (Try.prog.info? 26).map (fun i => (i.zero, i.size, i.bytes)) = some (some (.agg #[(.int .i64 0), (.int .u64 0), (.slice none 0 0), (.slice none 0 0)]), 4, 64) := by kernel_rfl
/-! #### struct type 26, nested in itself -/
structure S26 where
 f0 : Int
 f1 : Int
 f2 : (List Int)
 f3 : (List S26)
def z26 : S26 := ⟨(0 : Int), (0 : Int), ([] : List Int), ([] : List S26)⟩
def F26 (d : Kd S26) : Kd S26 := Kd.iso (Kd.pair (Kd.int .i64) (Kd.pair (Kd.int .u64) (Kd.pair (Kd.slice 5 (Kd.int .u8)) (Kd.slice 26 d)))) (fun x : S26 => (x.f0, x.f1, x.f2, x.f3))
theorem mono26 : Kd.Mono F26 := Kd.mono_iso _ (Kd.mono_pair (Kd.mono_const _) (Kd.mono_pair (Kd.mono_const _) (Kd.mono_pair (Kd.mono_const _) (Kd.mono_slice 26 Kd.mono_id))))
theorem sub26 : Kd.Sub F26 [5, 26] := Kd.sub_iso _ (Kd.sub_pair (Kd.sub_const _ (by decide)) (Kd.sub_pair (Kd.sub_const _ (by decide)) (Kd.sub_pair (Kd.sub_const _ (by decide)) (Kd.sub_slice 26 (by decide) Kd.sub_id))))
theorem sz26 : ∀ n, (Kd.upto F26 4 [5, 26] n).sz = 4 := Kd.upto_sz (fun _ => rfl)
def k26 : Kd S26 := Kd.fix F26 4 [5, 26] sz26 (Kd.upto_E sub26)
theorem k26_heap : Kd.Heap k26 := Kd.heap_fix (fun _ h_ => Kd.heap_iso _ (Kd.heap_pair (Kd.heap_int .i64) (Kd.heap_pair (Kd.heap_int .u64) (Kd.heap_pair (Kd.heap_slice 5 (Kd.heap_int .u8)) (Kd.heap_slice 26 h_)))))
theorem k26_open {w : World} {x : S26} {cs : List Value} (h : k26.K w x cs) : ∃ A2 c2 A3 c3, cs = [.int .i64 x.f0, .int .u64 x.f1, .slice A2 x.f2.length c2, .slice A3 x.f3.length c3] ∧ x.f2.length ≤ c2 ∧ (Kd.int .u8).C w A2 x.f2.length x.f2 ∧ x.f3.length ≤ c3 ∧ k26.C w A3 x.f3.length x.f3 := by
 obtain ⟨n, h⟩ := h
 cases n with
 | zero => exact h.elim
 | succ n =>
  obtain ⟨_, _, rfl, rfl, ⟨_, _, rfl, rfl, ⟨_, _, rfl, ⟨A2, c2, rfl, l2, g2⟩, ⟨A3, c3, rfl, l3, g3⟩⟩⟩⟩ := h
  exact ⟨A2, c2, A3, c3, rfl, l2, g2, l3, Kd.fix_C g3⟩
theorem k26_mk (w : World) (x : S26) {A2 : Option Addr} {c2 : Nat} (l2 : x.f2.length ≤ c2) (g2 : (Kd.int .u8).C w A2 x.f2.length x.f2) {A3 : Option Addr} {c3 : Nat} (l3 : x.f3.length ≤ c3) (g3 : k26.C w A3 x.f3.length x.f3) : k26.K w x [.int .i64 x.f0, .int .u64 x.f1, .slice A2 x.f2.length c2, .slice A3 x.f3.length c3] := by
 obtain ⟨n3, q3⟩ := Kd.fix_C_back mono26 g3
 have r3 := Kd.upto_C_le mono26 sz26 (show n3 ≤ n3 by omega) q3
 exact ⟨n3 + 1, ⟨[.int .i64 x.f0], [.int .u64 x.f1, .slice A2 x.f2.length c2, .slice A3 x.f3.length c3], rfl, rfl, ⟨[.int .u64 x.f1], [.slice A2 x.f2.length c2, .slice A3 x.f3.length c3], rfl, rfl, ⟨[.slice A2 x.f2.length c2], [.slice A3 x.f3.length c3], rfl, ⟨A2, c2, rfl, l2, g2⟩, ⟨A3, c3, rfl, l3, r3⟩⟩⟩⟩⟩
theorem k26_mkM (w : World) (base : Nat) (ok : Nat → Prop) (x : S26) {v2 : Value} (g2 : (Kd.int .u8).R 5 w base ok v2 x.f2) {v3 : Value} (g3 : k26.R 26 w base ok v3 x.f3) : k26.M w base ok x [.int .i64 x.f0, .int .u64 x.f1, v2, v3] := by
 obtain ⟨n3, q3⟩ := Kd.fix_R_back mono26 g3
 have r3 := Kd.upto_R_le mono26 sz26 (show n3 ≤ n3 by omega) q3
 exact ⟨n3 + 1, ⟨[.int .i64 x.f0], [.int .u64 x.f1, v2, v3], rfl, rfl, ⟨[.int .u64 x.f1], [v2, v3], rfl, rfl, ⟨[v2], [v3], rfl, ⟨v2, rfl, g2⟩, ⟨v3, rfl, r3⟩⟩⟩⟩⟩
theorem k26_openF {W : World} {ok : Nat → Prop} {x : S26} {cs : List Value} (h : Kd.FK k26 W ok x cs) : ∃ A2 c2 A3 c3, cs = [.int .i64 x.f0, .int .u64 x.f1, .slice A2 x.f2.length c2, .slice A3 x.f3.length c3] ∧ x.f2.length ≤ c2 ∧ Kd.F (Kd.int .u8) W ok A2 x.f2.length x.f2 ∧ x.f3.length ≤ c3 ∧ Kd.F k26 W ok A3 x.f3.length x.f3 := by
 obtain ⟨A2, c2, A3, c3, rfl, l2, _, l3, _⟩ := k26_open (Kd.FK_now h)
 exact ⟨A2, c2, A3, c3, rfl, l2, (fun W' hW => by obtain ⟨A2_, c2_, A3_, c3_, he, l2_, g2_, l3_, g3_⟩ := k26_open (h W' hW); injection (Option.some.inj (show some (Value.slice A2 x.f2.length c2) = some (Value.slice A2_ x.f2.length c2_) from congrArg (fun l => l[2]?) he)) with ha_ _ _; rw [ha_]; exact g2_), l3, (fun W' hW => by obtain ⟨A2_, c2_, A3_, c3_, he, l2_, g2_, l3_, g3_⟩ := k26_open (h W' hW); injection (Option.some.inj (show some (Value.slice A3 x.f3.length c3) = some (Value.slice A3_ x.f3.length c3_) from congrArg (fun l => l[3]?) he)) with ha_ _ _; rw [ha_]; exact g3_)⟩
theorem k26_mkF (W : World) (ok : Nat → Prop) (x : S26) {A2 : Option Addr} {c2 : Nat} (l2 : x.f2.length ≤ c2) (g2 : Kd.F (Kd.int .u8) W ok A2 x.f2.length x.f2) {A3 : Option Addr} {c3 : Nat} (l3 : x.f3.length ≤ c3) (g3 : Kd.F k26 W ok A3 x.f3.length x.f3) : Kd.FK k26 W ok x [.int .i64 x.f0, .int .u64 x.f1, .slice A2 x.f2.length c2, .slice A3 x.f3.length c3] := fun W2 hW => k26_mk W2 x l2 (g2 W2 hW) l3 (g3 W2 hW)
def rd_T26 (xs : List S26) (i : Int) : S26 := xs.getD i.toNat z26
theorem at_T26 {w : World} {A : Option Addr} {n : Nat} {xs : List S26} (h : Kd.C k26 w A n xs) (i : Int) (h0 : 0 ≤ i) (h1 : i < n) : ∃ ad A2 c2 A3 c3, A = some ad ∧ w.cell? (ad.add (i.toNat * 4)) = some (.int .i64 (rd_T26 xs i).f0) ∧ w.cell? ⟨(ad.add (i.toNat * 4)).block, (ad.add (i.toNat * 4)).off + 1, none⟩ = some (.int .u64 (rd_T26 xs i).f1) ∧ w.cell? ⟨(ad.add (i.toNat * 4)).block, (ad.add (i.toNat * 4)).off + 2, none⟩ = some (.slice A2 (rd_T26 xs i).f2.length c2) ∧ w.cell? ⟨(ad.add (i.toNat * 4)).block, (ad.add (i.toNat * 4)).off + 3, none⟩ = some (.slice A3 (rd_T26 xs i).f3.length c3) ∧ (rd_T26 xs i).f2.length ≤ c2 ∧ (Kd.int .u8).C w A2 (rd_T26 xs i).f2.length (rd_T26 xs i).f2 ∧ (rd_T26 xs i).f3.length ≤ c3 ∧ k26.C w A3 (rd_T26 xs i).f3.length (rd_T26 xs i).f3 := by
 obtain ⟨ad, c, e, _, hK, hc0⟩ := Kd.C_get h z26 i h0 h1
 have hc : ∀ j u, c[j]? = some u → w.cell? (ad.add (i.toNat * 4 + j)) = some u := hc0
 obtain ⟨A2, c2, A3, c3, rfl, l2, g2, l3, g3⟩ := k26_open hK
 exact ⟨ad, A2, c2, A3, c3, e, hc 0 _ rfl, by rw [← add_field _ _ 1 (by omega)]; exact hc 1 _ rfl, by rw [← add_field _ _ 2 (by omega)]; exact hc 2 _ rfl, by rw [← add_field _ _ 3 (by omega)]; exact hc 3 _ rfl, l2, g2, l3, g3⟩

end Go.Proofs.Ytgohmganimamcaa.PZ
-- printed for this claim by a program (pall.sh)
-- mended by fixpz.py
namespace Go.Proofs.Ytgohmganimamcaa.PZ
open Go.RowKit Go.Proofs.YtgohmganimamcaaW.PrintWords Go.Proofs.YtgohmganimamcaaW.PrintLast Go.Proofs.YtgohmganimamcaaW.PrintMore
attribute [local go_sem] max2_int min2_int max_two min_two max_three min_three max_four min_four   -- for this text's walks alone
set_option linter.unusedVariables false
set_option linter.unusedSimpArgs false

/-! ### tlv_Num: function 44 -/
mutual
def tlv_Num.l0 : Nat → Int → Int → Int → Option (List Int)
 | 0, _, _, _ => none
 | k + 1, x0, x3, x4 => if x4 > 0 then (tlv_Num.l0 k x0 (wrap64 (x3 + 1)) (x4 / 256)) else (if 0 ≤ (wrap64 (1 + x3)) then (if (wrap64 (1 + x3) : Int).toNat ≤ 281474976710656 then ((some (List.replicate (wrap64 (1 + x3) : Int).toNat 0 : List Int)).bind fun y101 => (if 0 < (y101.length : Int) then (tlv_Num.l1 k x0 (y101.set (0 : Int).toNat ((x3) % 256)) x3) else (none))) else (none)) else (none))
def tlv_Num.l1 : Nat → Int → List Int → Int → Option (List Int)
 | 0, _, _, _ => none
 | k + 1, x0, x5, x6 => if x6 > 0 then (if 0 ≤ x6 then (if x6 < (x5.length : Int) then (tlv_Num.l1 k (x0 / 256) (x5.set (x6 : Int).toNat ((x0) % 256)) (wrap64 (x6 - 1))) else (none)) else (none)) else (some x5)
end
def tlv_Num.f (k : Nat) (a0 : Int) : Option (List Int) := tlv_Num.l0 k a0 0 a0
set_option maxHeartbeats 8000000 in
set_option maxRecDepth 100000 in
theorem tlv_Num.calls (k : Nat) (a0 : Int) (r : List Int) (w : World) (h : tlv_Num.f k a0 = some r) :
  Calls Try.prog 44 #[.int .u64 a0] w fun e w' => ∃ v0_ : Value, e = .returned (v0_) ∧ Kd.R (Kd.int .u8) 5 w' w.heap.size (fun _ => True) v0_ r ∧ Below w.heap.size w w' := by
 have HB := Aside0.mk (Below.refl w.heap.size w)
 have H : (tlv_Num.l0 k a0 0 a0) = some r := h
 clear h
 have H' := Aside0.mk H
 clear H
 go_enter Try.func44, Try.ntmps44
 go_wp2
 go_loopg [3, 4] k (fun kq v3 v4 w' => ∃ (x3_1 : Int) (x4_1 : Int), v3 = .int .i64 x3_1 ∧ v4 = .int .u64 x4_1 ∧ Aside0 (tlv_Num.l0 kq a0 x3_1 x4_1 = some r) ∧ Aside0 (kq ≤ k) ∧ Aside0 (Below w.heap.size w w'))
 case atStart => exact ⟨(0), (a0), (by first | rfl | (simp; done) | (simp [*]; done)), (by first | rfl | (simp; done) | (simp [*]; done)), H', ⟨Nat.le_refl _⟩, ⟨by repeat (first | (with_reducible first | exact HB.out | apply below_alloc | apply pw_below_drewN | apply below_drew1) | exact HB.out)⟩⟩
 case round =>
  clear H'
  obtain ⟨x3_1, x4_1, rfl, rfl, HA, HK1, HB⟩ := hrel
  cases gk with
  | zero => exact absurd HA.out (by simp [tlv_Num.l0])
  | succ k1 =>
   have H := HA.out
   clear HA
   simp only [tlv_Num.l0] at H
   by_cases c2 : x4_1 > 0
   ·rw [if_pos c2] at H
    have c2b0 : decide (0 < x4_1) = true := decide_eq_true c2
    clear c2
    have H' := Aside0.mk H
    clear H
    go_wp2
    go_roundg k1
    case measure => have := HK1.out; omega
    case rel => exact ⟨(wrap64 (x3_1 + 1)), (x4_1 / 256), (by first | rfl | (simp; done) | (simp [*]; done)), (by first | rfl | (simp; done) | (simp [*]; done)), H', ⟨by have := HK1.out; omega⟩, ⟨by repeat (first | (with_reducible first | exact HB.out | apply below_alloc | apply pw_below_drewN | apply below_drew1) | exact HB.out)⟩⟩
   ·rw [if_neg c2] at H
    have c2b0 : decide (0 < x4_1) = false := decide_eq_false c2
    clear c2
    obtain ⟨ji3, hji3⟩ : ∃ j_ : Int, (wrap64 (1 + x3_1)) = j_ := ⟨_, rfl⟩
    replace H : (if 0 ≤ (ji3) then (if (ji3 : Int).toNat ≤ 281474976710656 then ((some (List.replicate (ji3 : Int).toNat 0 : List Int)).bind fun y101 => (if 0 < (y101.length : Int) then (tlv_Num.l1 k1 a0 (y101.set (0 : Int).toNat ((x3_1) % 256)) x3_1) else (none))) else (none)) else (none)) = some r := by first | (rw [hji3] at H; exact H) | (simp only [hji3] at H ⊢; exact H)
    have hji3w : (IntKind.i64.wrap (1 + x3_1)) = ji3 := (i64_w _).trans hji3
    by_cases c4 : 0 ≤ (ji3)
    ·rw [if_pos c4] at H
     have c4b0 := eq_true c4
     have c4b1 : decide (0 ≤ (ji3)) = true := decide_eq_true c4
     clear c4
     by_cases c5 : (ji3 : Int).toNat ≤ 281474976710656
     ·rw [if_pos c5] at H
      have c5b0 := eq_true c5
      have c5b1 : decide ((ji3 : Int).toNat ≤ 281474976710656) = true := decide_eq_true c5
      clear c5
      obtain ⟨y101, hy101⟩ : ∃ y_ : List Int, y_ = (List.replicate (ji3 : Int).toNat 0) := ⟨_, rfl⟩
      replace H : (if 0 < (y101.length : Int) then (tlv_Num.l1 k1 a0 (y101.set (0 : Int).toNat ((x3_1) % 256)) x3_1) else (none)) = some r := by first | (rw [hy101]; with_reducible exact H) | (have H2_ := (Option.bind_some _ _).symm.trans H; rw [hy101]; with_reducible exact H2_) | (have H2_ := (Option.bind_some _ _).symm.trans H; with_reducible exact H2_) | with_reducible exact H | (rw [hy101]; exact H) | exact H
      have Ny101 := Aside0.mk hy101
      clear hy101
      by_cases c6 : 0 < (y101.length : Int)
      ·rw [if_pos c6] at H
       have c6b0 : decide (0 < (y101.length : Int)) = true := decide_eq_true c6
       have c6b1 : decide (0 < y101.length) = true := decide_eq_true (by omega)
       clear c6
       obtain ⟨y104, hy104⟩ : ∃ y_ : List Int, y_ = (y101.set (0 : Int).toNat ((x3_1) % 256)) := ⟨_, rfl⟩
       replace H : (tlv_Num.l1 k1 a0 y104 x3_1) = some r := by first | (rw [hy104]; with_reducible exact H) | (have H2_ := (Option.bind_some _ _).symm.trans H; rw [hy104]; with_reducible exact H2_) | (have H2_ := (Option.bind_some _ _).symm.trans H; with_reducible exact H2_) | with_reducible exact H | (rw [hy104]; exact H) | exact H
       have Ny104 := Aside0.mk hy104
       clear hy104
       have H' := Aside0.mk H
       clear H
       go_wp2_with (first | ((with_reducible refine gate_dst (N := 16) rfl ?_); refine Kd.R_make (Kd.int .u8) _ 5 rfl (N := 16) rfl 23 _ _ rfl ji3 rfl rfl Try.underlying23 (.int .u8 0) 1 info5 rfl (by decide) (by omega) 0 (ok := fun _ => True) (okp := fun _ => True) rfl (fun _ hk => hk) trivial (of_decide_eq_true (by first | (with_reducible assumption) | assumption)) (Nat.le_trans (Nat.mul_le_mul_right _ (of_decide_eq_true (by first | (with_reducible assumption) | assumption) : ji3.toNat ≤ 281474976710656)) (by omega)) (Below.refl _ _) (Nat.le_refl _) ?_; intro v102 w8 ho9 hb hg_ hnew_; clear hg_ hnew_; (first | rw [← Ny101.out] at ho9 | (simp only [Int.reduceToNat] at ho9; rw [← Ny101.out] at ho9)); have n0_ := Aside0.mk (Kd.R_lower ho9 (below_size (by repeat (first | (with_reducible first | exact HB.out | apply below_alloc | apply pw_below_drewN | apply below_drew1) | exact HB.out)))); have n1_ := Aside0.mk (below_step (by repeat (first | (with_reducible first | exact HB.out | apply below_alloc | apply pw_below_drewN | apply below_drew1) | exact HB.out)) hb); clear HB; have HO103 := n0_; have HB := n1_; clear n0_ n1_; clear hb ho9; have p7 : 0 ≤ (0 : Int) := (by omega); have q7 : (0 : Int) < ((y101.length : Int) : Int) := of_decide_eq_true (by first | (with_reducible assumption) | assumption); have qi7 : (0 < y101.length) = True := eq_true (by omega); obtain ⟨go7, co7, eo7, gb7, gl7, cl7, HG7⟩ := Kd.R_form HO103.out (by omega); (first | cases eo7 | (injection eo7 with ea_ en_ ec_; (first | subst ea_ | (injection ea_ with ea_; subst ea_)); subst ec_; clear en_)); have GB7 := Aside0.mk gb7; have GG7 := Aside0.mk HG7; clear gb7 gl7 HG7; obtain ⟨hx7_0, hf7_0⟩ := Kd.R_celln 0 HO103.out (0 : Int) p7 q7; (try rw [show ((0 : Int)).toNat = 0 from rfl] at hx7_0); (try simp only [Nat.reduceMul, Nat.zero_mul, Nat.zero_add, Nat.reduceAdd] at hx7_0); (try rw [show ((0 : Int)).toNat = 0 from rfl] at hf7_0); (try simp only [Nat.reduceMul, Nat.zero_mul, Nat.zero_add, Nat.reduceAdd] at hf7_0); replace p7 := eq_true p7; replace q7 := eq_true q7; obtain ⟨hy10_, hz10_⟩ := Kd.R_celln 0 HO103.out (0 : Int) (by omega) (of_decide_eq_true (by first | (with_reducible assumption) | assumption)); (try simp only [Int.reduceToNat, Int.toNat_zero, Int.toNat_ofNat, Nat.reduceMul, Nat.zero_mul, Nat.zero_add] at hy10_ hz10_); (try rw [show ((0 : Int)).toNat = 0 from rfl] at hy10_); (try rw [show ((0 : Int)).toNat = 0 from rfl] at hz10_); have HP10 := Kd.R_putg HO103.out (0 : Int) ((x3_1) % 256)) | ((with_reducible refine gate_store (t := 5) (p := 20) rfl ?_); refine store_event (t := 5) (p := 20) (v := ?vo_w11) (w1 := (w8.setCell ⟨go7, (0 : Int).toNat, none⟩ (.int .u8 ((x3_1) % 256)))) ?hg ?ho ?hn ?hr ?_; (case ho => rfl); (case hg => rfl); (case hn => rfl); (case hr => first | (go_simp; done) | (go_simp; rfl)); intro w11 hw; have hg : w8.grownBy w11 (some go7) := (by rw [hw]; exact HP10.2); have hp_ : Kd.R (Kd.int .u8) 5 w11 w.heap.size (fun _ => True) (.slice (some ⟨go7, 0, none⟩) y101.length co7) y104 := (by rw [hw, Ny104.out]; exact HP10.1); clear HP10; have n0_ := Aside0.mk (hp_); have n1_ := Aside0.mk ((by rw [hw]; exact below_set (HB.out) GB7.out : Below w.heap.size w w11)); clear HO103; clear HB; have HO103 := n0_; have HB := n1_; clear n0_ n1_; clear hg hw hp_))
       go_loopg [0, 6] k1 (fun kq v0 v6 w' => ∃ (x0_2 : Int) (x5_2 : List Int) (x6_2 : Int), v0 = .int .u64 x0_2 ∧ v6 = .int .i64 x6_2 ∧ Aside0 (tlv_Num.l1 kq x0_2 x5_2 x6_2 = some r) ∧ Aside0 (kq ≤ k1) ∧ Aside0 (Kd.R (Kd.int .u8) 5 w' w.heap.size (fun _ => True) (.slice (some ⟨go7, 0, none⟩) y101.length co7) x5_2) ∧ Aside0 (Below w.heap.size w w'))
       case atStart => exact ⟨(a0), (y104), (x3_1), (by first | rfl | (simp; done) | (simp [*]; done)), (by first | rfl | (simp; done) | (simp [*]; done)), H', ⟨Nat.le_refl _⟩, ⟨by (with_reducible repeat (first | apply Kd.R_alloc | apply Kd.R_drewN | apply Kd.R_drew)); exact HO103.out⟩, ⟨by repeat (first | (with_reducible first | exact HB.out | apply below_alloc | apply pw_below_drewN | apply below_drew1) | exact HB.out)⟩⟩
       case round =>
        clear H'
        (try clear c2);(try clear c2b0);(try clear p2);(try clear c4);(try clear c4b0);(try clear c4b1);(try clear c5);(try clear c5b0);(try clear c5b1);(try clear c6);(try clear c6b0);(try clear c6b1);(try clear p6);(try clear p7);(try clear q7);(try clear hx7);(try clear qi7);(try clear hf7);(try clear hx7_0);(try clear p7);(try clear q7)
        obtain ⟨x0_2, x5_2, x6_2, rfl, rfl, HA, HK2, HO_5, HB⟩ := hrel
        have hl5_2 := (Kd.R_reads' HO_5.out).1
        rw [hl5_2] at HO_5
        (try simp only [hl5_2])
        cases gk with
        | zero => exact absurd HA.out (by simp [tlv_Num.l1])
        | succ k2 =>
         have H := HA.out
         clear HA
         simp only [tlv_Num.l1] at H
         by_cases c12 : x6_2 > 0
         ·rw [if_pos c12] at H
          have c12b0 : decide (0 < x6_2) = true := decide_eq_true c12
          clear c12
          by_cases c13 : 0 ≤ x6_2
          ·rw [if_pos c13] at H
           have c13b0 : decide (0 ≤ x6_2) = true := decide_eq_true c13
           clear c13
           by_cases c14 : x6_2 < (x5_2.length : Int)
           ·rw [if_pos c14] at H
            have c14b0 : decide (x6_2 < (x5_2.length : Int)) = true := decide_eq_true c14
            clear c14
            obtain ⟨y105, hy105⟩ : ∃ y_ : List Int, y_ = (x5_2.set (x6_2 : Int).toNat ((x0_2) % 256)) := ⟨_, rfl⟩
            replace H : (tlv_Num.l1 k2 (x0_2 / 256) y105 (wrap64 (x6_2 - 1))) = some r := by first | (rw [hy105]; with_reducible exact H) | (have H2_ := (Option.bind_some _ _).symm.trans H; rw [hy105]; with_reducible exact H2_) | (have H2_ := (Option.bind_some _ _).symm.trans H; with_reducible exact H2_) | with_reducible exact H | (rw [hy105]; exact H) | exact H
            have Ny105 := Aside0.mk hy105
            clear hy105
            have H' := Aside0.mk H
            clear H
            have p15 : 0 ≤ (x6_2 : Int) := of_decide_eq_true (by first | (with_reducible assumption) | assumption)
            have q15 : (x6_2 : Int) < ((x5_2.length : Int) : Int) := of_decide_eq_true (by first | (with_reducible assumption) | assumption)
            obtain ⟨hx15_0, hf15_0⟩ := Kd.R_celln 0 HO_5.out (x6_2 : Int) p15 q15
            replace p15 := eq_true p15
            replace q15 := eq_true q15
            have HP16 := Kd.R_putg HO_5.out (x6_2 : Int) ((x0_2) % 256)
            go_wp2_with (first | ((with_reducible refine gate_store (t := 5) (p := 30) rfl ?_); refine store_event (t := 5) (p := 30) (v := ?vo_w17) (w1 := (wr.setCell ⟨go7, (x6_2 : Int).toNat, none⟩ (.int .u8 ((x0_2) % 256)))) ?hg ?ho ?hn ?hr ?_; (case ho => rfl); (case hg => rfl); (case hn => rfl); (case hr => first | (go_simp; done) | (go_simp; rfl)); intro w17 hw; have hg : wr.grownBy w17 (some go7) := (by rw [hw]; exact HP16.2); have hp_ : Kd.R (Kd.int .u8) 5 w17 w.heap.size (fun _ => True) (.slice (some ⟨go7, 0, none⟩) x5_2.length co7) y105 := (by rw [hw, Ny105.out]; exact HP16.1); clear HP16; have n0_ := Aside0.mk (hp_); have n1_ := Aside0.mk ((by rw [hw]; exact below_set (HB.out) GB7.out : Below w.heap.size w w17)); clear HO_5; clear HB; have HO_5 := n0_; have HB := n1_; clear n0_ n1_; clear hg hw hp_))
            (try simp only [← hl5_2])
            go_roundg k2
            case measure => have := HK1.out; have := HK2.out; omega
            case rel => exact ⟨(x0_2 / 256), (y105), (wrap64 (x6_2 - 1)), (by first | rfl | (simp; done) | (simp [*]; done)), (by first | rfl | (simp; done) | (simp [*]; done)), H', ⟨by have := HK1.out; have := HK2.out; omega⟩, ⟨by (try simp only [hl5_2]); (with_reducible repeat (first | apply Kd.R_alloc | apply Kd.R_drewN | apply Kd.R_drew)); exact HO_5.out⟩, ⟨by repeat (first | (with_reducible first | exact HB.out | apply below_alloc | apply pw_below_drewN | apply below_drew1) | exact HB.out)⟩⟩
           ·rw [if_neg c14] at H
            exact absurd H (by simp)
          ·rw [if_neg c13] at H
           exact absurd H (by simp)
         ·rw [if_neg c12] at H
          have c12b0 : decide (0 < x6_2) = false := decide_eq_false c12
          clear c12
          obtain rfl := Option.some.inj H
          go_wp2
          go_ret
          exact ⟨_, by first | rfl | (simp [errW_none, errW_some] <;> rfl) | (simp only [← hji3]; first | rfl | (simp [errW_none, errW_some] <;> rfl)) | (simp [*, errW_none, errW_some] <;> rfl), by (with_reducible repeat (first | apply Kd.R_alloc | apply Kd.R_drewN | apply Kd.R_drew)); exact HO_5.out, by repeat (first | (with_reducible first | exact HB.out | apply below_alloc | apply pw_below_drewN | apply below_drew1) | exact HB.out)⟩
      ·rw [if_neg c6] at H
       exact absurd H (by simp)
     ·rw [if_neg c5] at H
      exact absurd H (by simp)
    ·rw [if_neg c4] at H
     exact absurd H (by simp)

end Go.Proofs.Ytgohmganimamcaa.PZ
-- printed for this claim by a program (pall.sh)
-- mended by fixpz.py
namespace Go.Proofs.Ytgohmganimamcaa.PZ
open Go.RowKit Go.Proofs.YtgohmganimamcaaW.PrintWords Go.Proofs.YtgohmganimamcaaW.PrintLast Go.Proofs.YtgohmganimamcaaW.PrintMore
attribute [local go_sem] max2_int min2_int max_two min_two max_three min_three max_four min_four   -- for this text's walks alone
set_option linter.unusedVariables false
set_option linter.unusedSimpArgs false

/-! ### tlv_Text: function 45 -/
def tlv_Text.f (k : Nat) (l0 : List Int) : Option (List Int) := (tlv_Num.f k (IntKind.u64.wrap ((l0.length : Int)))).bind fun t101 => (if t101.length + l0.length < 140737488355328 then (some (t101 ++ l0)) else (none))
set_option maxHeartbeats 8000000 in
set_option maxRecDepth 100000 in
theorem tlv_Text.calls (k : Nat) (A0 : Option Addr) (c0 : Nat) (l0 : List Int) (r : List Int) (w : World) (hr0 : Kd.C (Kd.int .u8) w A0 l0.length l0) (hc0 : l0.length ≤ c0) (h : tlv_Text.f k l0 = some r) :
  Calls Try.prog 45 #[.slice A0 l0.length c0] w fun e w' => ∃ v0_ : Value, e = .returned (v0_) ∧ Kd.R (Kd.int .u8) 5 w' w.heap.size (fun _ => True) v0_ r ∧ Below w.heap.size w w' := by
 have HR0 := Aside0.mk hr0
 have HC0 := Aside0.mk hc0
 clear hr0 hc0
 have HB := Aside0.mk (Below.refl w.heap.size w)
 have H : ((tlv_Num.f k (IntKind.u64.wrap ((l0.length : Int)))).bind fun t101 => (if t101.length + l0.length < 140737488355328 then (some (t101 ++ l0)) else (none))) = some r := h
 clear h
 replace H := Option.bind_eq_some_iff.mp H
 obtain ⟨t101, A20, H⟩ := H
 replace H : (if t101.length + l0.length < 140737488355328 then (some (t101 ++ l0)) else (none)) = some r := H
 have A2 := Aside0.mk A20
 clear A20
 by_cases c3 : t101.length + l0.length < 140737488355328
 ·rw [if_pos c3] at H
  have LMc3 := Aside0.mk c3
  clear c3
  obtain ⟨y104, hy104⟩ : ∃ y_ : List Int, y_ = (t101 ++ l0) := ⟨_, rfl⟩
  replace H : (some y104) = some r := by first | (rw [hy104]; with_reducible exact H) | (have H2_ := (Option.bind_some _ _).symm.trans H; rw [hy104]; with_reducible exact H2_) | (have H2_ := (Option.bind_some _ _).symm.trans H; with_reducible exact H2_) | with_reducible exact H | (rw [hy104]; exact H) | exact H
  have Ny104 := Aside0.mk hy104
  clear hy104
  obtain rfl := Option.some.inj H
  go_enter Try.func45, Try.ntmps45
  go_wp2_with (first | ((with_reducible refine gate_callee (f := 44) rfl ?_); refine goesL_ (some 6) rfl rfl Try.func44 (by kernel_rfl) rfl #[.int .u64 (IntKind.u64.wrap ((l0.length : Int)))] rfl (by (try simp only [List.map_toArray, List.map_cons, List.map_nil]); first | done | rfl | (simp only [List.length_drop, List.length_take]; rfl)) ?_; (with_reducible refine (tlv_Num.calls k (IntKind.u64.wrap ((l0.length : Int))) t101 _ A2.out).mono ?_); rintro e w4 ⟨v102, rfl, ho0, hb⟩; refine ⟨_, rfl, ?_⟩; have n0_ := Aside0.mk (Kd.R_lower ho0 (below_size (by repeat (first | (with_reducible first | exact HB.out | apply below_alloc | apply pw_below_drewN | apply below_drew1) | exact HB.out)))); have n1_ := Aside0.mk (below_step (by repeat (first | (with_reducible first | exact HB.out | apply below_alloc | apply pw_below_drewN | apply below_drew1) | exact HB.out)) hb); clear HB; have HO103 := n0_; have HB := n1_; clear n0_ n1_; (try clear hb); (try clear hb2); (try clear hk); (try clear hi); (try clear ho0)) | ((with_reducible refine gate_builtin (b := .append) (xs := #[.tmp 6, .tmp 7]) rfl ?_); at_builtin; refine Kd.R_append_rows (Kd.int .u8) (w0 := w) w.heap.size rfl (.tmp 6) (.tmp 7) 23 5 (.int .u8 0) 1 rfl Try.underlying23 info5 rfl (by decide) (by omega) v102 t101 l0 _ _ _ (fun _ => True) (fun _ => False) rfl rfl ?aO ?aR (fun _ _ h => h) (fun _ h => h.elim) ?aF ?aB ?aS ?aL ?_; (case aR => repeat (first | exact (Kd.C_below HR0.out HB.out) | (with_reducible refine Kd.C_alloc ?_ _) | (with_reducible refine Kd.C_drewN ?_ _) | (with_reducible refine Kd.C_drew ?_))); (case aB => exact (by repeat (first | (with_reducible first | exact HB.out | apply below_alloc | apply pw_below_drewN | apply below_drew1) | exact HB.out))); (case aF => exact (fun _ _ => trivial)); (case aO => exact (by (with_reducible repeat (first | apply Kd.R_alloc | apply Kd.R_drewN | apply Kd.R_drew)); exact HO103.out)); (case aS => exact (below_size (by repeat (first | (with_reducible first | exact HB.out | apply below_alloc | apply pw_below_drewN | apply below_drew1) | exact HB.out)))); (case aL => have := LMc3.out; omega); intro v105 w5 ho hb hg hat; rw [← Ny104.out] at ho; have n0_ := Aside0.mk (hb); have n1_ := Aside0.mk (ho); clear HB; clear HO103; have HB := n0_; have HO106 := n1_; clear n0_ n1_; clear ho hb hg hat))
  go_ret
  exact ⟨_, by first | rfl | (simp [errW_none, errW_some] <;> rfl) | (simp [*, errW_none, errW_some] <;> rfl), by (with_reducible repeat (first | apply Kd.R_alloc | apply Kd.R_drewN | apply Kd.R_drew)); exact HO106.out, by repeat (first | (with_reducible first | exact HB.out | apply below_alloc | apply pw_below_drewN | apply below_drew1) | exact HB.out)⟩
 ·rw [if_neg c3] at H
  exact absurd H (by simp)

end Go.Proofs.Ytgohmganimamcaa.PZ
-- printed for this claim by a program (pall.sh)
-- mended by fixpz.py
namespace Go.Proofs.Ytgohmganimamcaa.PZ
open Go.RowKit Go.Proofs.YtgohmganimamcaaW.PrintWords Go.Proofs.YtgohmganimamcaaW.PrintLast Go.Proofs.YtgohmganimamcaaW.PrintMore
attribute [local go_sem] max2_int min2_int max_two min_two max_three min_three max_four min_four   -- for this text's walks alone
set_option linter.unusedVariables false
set_option linter.unusedSimpArgs false

end Go.Proofs.Ytgohmganimamcaa.PZ
-- printed for this claim by a program (pall.sh)
-- mended by fixpz.py
namespace Go.Proofs.Ytgohmganimamcaa.PZ
open Go.RowKit Go.Proofs.YtgohmganimamcaaW.PrintWords Go.Proofs.YtgohmganimamcaaW.PrintLast Go.Proofs.YtgohmganimamcaaW.PrintMore
attribute [local go_sem] max2_int min2_int max_two min_two max_three min_three max_four min_four   -- for this text's walks alone
set_option linter.unusedVariables false
set_option linter.unusedSimpArgs false

end Go.Proofs.Ytgohmganimamcaa.PZ
-- printed for this claim by a program (pall.sh)
-- mended by fixpz.py
namespace Go.Proofs.Ytgohmganimamcaa.PZ
open Go.RowKit Go.Proofs.YtgohmganimamcaaW.PrintWords Go.Proofs.YtgohmganimamcaaW.PrintLast Go.Proofs.YtgohmganimamcaaW.PrintMore
attribute [local go_sem] max2_int min2_int max_two min_two max_three min_three max_four min_four   -- for this text's walks alone
set_option linter.unusedVariables false
set_option linter.unusedSimpArgs false

/-! ### hanaperref01_Same: function 14 -/
def hanaperref01_Same.l0 : Nat → List Int → List Int → Int → Option (Bool)
 | 0, _, _, _ => none
 | k + 1, x0, x1, x5 => if x5 < (x0.length : Int) then (if 0 ≤ x5 then (if x5 < (x1.length : Int) then (if (rd x0 x5) = (rd x1 x5) then (hanaperref01_Same.l0 k x0 x1 (wrap64 (x5 + 1))) else (some false)) else (none)) else (none)) else (some true)
def hanaperref01_Same.f (k : Nat) (l0 : List Int) (l1 : List Int) : Option (Bool) := if (l0.length : Int) = (l1.length : Int) then (hanaperref01_Same.l0 k l0 l1 0) else (some false)
set_option maxHeartbeats 8000000 in
set_option maxRecDepth 100000 in
theorem hanaperref01_Same.calls (k : Nat) (A0 : Option Addr) (c0 : Nat) (l0 : List Int) (A1 : Option Addr) (c1 : Nat) (l1 : List Int) (r : Bool) (w : World) (hr0 : Kd.C (Kd.int .u8) w A0 l0.length l0) (hc0 : l0.length ≤ c0) (hr1 : Kd.C (Kd.int .u8) w A1 l1.length l1) (hc1 : l1.length ≤ c1) (h : hanaperref01_Same.f k l0 l1 = some r) :
  Calls Try.prog 14 #[.slice A0 l0.length c0, .slice A1 l1.length c1] w fun e w' => e = .returned (.bool r) ∧ Drawn0 w w' := by
 have HR0 := Aside0.mk hr0
 have HC0 := Aside0.mk hc0
 clear hr0 hc0
 have HR1 := Aside0.mk hr1
 have HC1 := Aside0.mk hc1
 clear hr1 hc1
 have H : (if (l0.length : Int) = (l1.length : Int) then (hanaperref01_Same.l0 k l0 l1 0) else (some false)) = some r := h
 clear h
 by_cases c3 : (l0.length : Int) = (l1.length : Int)
 ·rw [if_pos c3] at H
  have c3b0 : ((l0.length : Int) == (l1.length : Int)) = true := beq_iff_eq.mpr c3
  have c3b1 : ((l0.length : Int) != (l1.length : Int)) = false := bne_eq_false_iff_eq.mpr c3
  have c3b2 : (l0.length == l1.length) = true := by first | simpa using c3 | (simp at c3 ⊢; omega)
  clear c3
  have H' := Aside0.mk H
  clear H
  go_enter Try.func14, Try.ntmps14
  go_wp2
  repeat (go_quiet (fail); try go_wp2)
  go_loopg [5] k (fun kq v5 w' => ∃ (x5_1 : Int), v5 = .int .i64 x5_1 ∧ Aside0 (hanaperref01_Same.l0 kq l0 l1 x5_1 = some r) ∧ Aside0 (kq ≤ k) ∧ Drawn0 w w')
  case atStart => exact ⟨(0), (by first | rfl | (simp; done) | (simp [*]; done)), H', ⟨Nat.le_refl _⟩, by repeat (first | exact Drawn0.refl _ | apply Drawn0.step)⟩
  case round =>
   clear H'
   (try clear c1);(try clear p2);(try clear c3);(try clear c3b0);(try clear c3b1);(try clear c3b2)
   obtain ⟨x5_1, rfl, HA, HK1, ⟨m1, rfl⟩⟩ := hrel
   cases gk with
   | zero => exact absurd HA.out (by simp [hanaperref01_Same.l0])
   | succ k1 =>
    have H := HA.out
    clear HA
    simp only [hanaperref01_Same.l0] at H
    by_cases c4 : x5_1 < (l0.length : Int)
    ·rw [if_pos c4] at H
     have c4b0 : decide (x5_1 < (l0.length : Int)) = true := decide_eq_true c4
     clear c4
     by_cases c5 : 0 ≤ x5_1
     ·rw [if_pos c5] at H
      have c5b0 : decide (0 ≤ x5_1) = true := decide_eq_true c5
      clear c5
      by_cases c6 : x5_1 < (l1.length : Int)
      ·rw [if_pos c6] at H
       have c6b0 : decide (x5_1 < (l1.length : Int)) = true := decide_eq_true c6
       clear c6
       by_cases c7 : (rd l0 x5_1) = (rd l1 x5_1)
       ·rw [if_pos c7] at H
        have c7b0 : ((rd l0 x5_1) == (rd l1 x5_1)) = true := beq_iff_eq.mpr c7
        have c7b1 : ((rd l0 x5_1) != (rd l1 x5_1)) = false := bne_eq_false_iff_eq.mpr c7
        clear c7
        have H' := Aside0.mk H
        clear H
        have p101 : 0 ≤ (x5_1 : Int) := of_decide_eq_true (by first | (with_reducible assumption) | assumption)
        have q101 : x5_1 < (l0.length : Int) := of_decide_eq_true (by first | (with_reducible assumption) | assumption)
        obtain ⟨ad101, e101, hx101_0⟩ := Kd.at_int HR0.out x5_1 p101 q101
        cases e101
        replace p101 := eq_true p101
        replace q101 := eq_true q101
        have p102 : 0 ≤ (x5_1 : Int) := of_decide_eq_true (by first | (with_reducible assumption) | assumption)
        have q102 : x5_1 < (l1.length : Int) := of_decide_eq_true (by first | (with_reducible assumption) | assumption)
        obtain ⟨ad102, e102, hx102_0⟩ := Kd.at_int HR1.out x5_1 p102 q102
        cases e102
        replace p102 := eq_true p102
        replace q102 := eq_true q102
        go_wp2
        repeat (go_quiet (fail); try go_wp2)
        go_roundg k1
        case measure => have := HK1.out; omega
        case rel => exact ⟨(wrap64 (x5_1 + 1)), (by first | rfl | (simp; done) | (simp [*]; done)), H', ⟨by have := HK1.out; omega⟩, by repeat (first | exact Drawn0.refl _ | apply Drawn0.step)⟩
       ·rw [if_neg c7] at H
        have c7b0 : ((rd l0 x5_1) == (rd l1 x5_1)) = false := beq_eq_false_iff_ne.mpr c7
        have c7b1 : ((rd l0 x5_1) != (rd l1 x5_1)) = true := bne_iff_ne.mpr c7
        obtain rfl := Option.some.inj H
        have p101 : 0 ≤ (x5_1 : Int) := of_decide_eq_true (by first | (with_reducible assumption) | assumption)
        have q101 : x5_1 < (l0.length : Int) := of_decide_eq_true (by first | (with_reducible assumption) | assumption)
        obtain ⟨ad101, e101, hx101_0⟩ := Kd.at_int HR0.out x5_1 p101 q101
        cases e101
        replace p101 := eq_true p101
        replace q101 := eq_true q101
        have p102 : 0 ≤ (x5_1 : Int) := of_decide_eq_true (by first | (with_reducible assumption) | assumption)
        have q102 : x5_1 < (l1.length : Int) := of_decide_eq_true (by first | (with_reducible assumption) | assumption)
        obtain ⟨ad102, e102, hx102_0⟩ := Kd.at_int HR1.out x5_1 p102 q102
        cases e102
        replace p102 := eq_true p102
        replace q102 := eq_true q102
        go_wp2
        repeat (go_quiet (fail); try go_wp2)
        go_ret
        exact ⟨by first | rfl | (simp; done) | (simp [*]; done), by repeat (first | exact Drawn0.refl _ | apply Drawn0.step)⟩
      ·rw [if_neg c6] at H
       exact absurd H (by simp)
     ·rw [if_neg c5] at H
      exact absurd H (by simp)
    ·rw [if_neg c4] at H
     have c4b0 : decide (x5_1 < (l0.length : Int)) = false := decide_eq_false c4
     clear c4
     obtain rfl := Option.some.inj H
     go_wp2
     repeat (go_quiet (fail); try go_wp2)
     go_ret
     exact ⟨by first | rfl | (simp; done) | (simp [*]; done), by repeat (first | exact Drawn0.refl _ | apply Drawn0.step)⟩
 ·rw [if_neg c3] at H
  have c3b0 : ((l0.length : Int) == (l1.length : Int)) = false := beq_eq_false_iff_ne.mpr c3
  have c3b1 : ((l0.length : Int) != (l1.length : Int)) = true := bne_iff_ne.mpr c3
  have c3b2 : (l0.length == l1.length) = false := by first | simpa using c3 | (simp at c3 ⊢; omega)
  obtain rfl := Option.some.inj H
  go_enter Try.func14, Try.ntmps14
  go_wp2
  repeat (go_quiet (fail); try go_wp2)
  go_ret
  exact ⟨by first | rfl | (simp; done) | (simp [*]; done), by repeat (first | exact Drawn0.refl _ | apply Drawn0.step)⟩

end Go.Proofs.Ytgohmganimamcaa.PZ
-- printed for this claim by a program (pall.sh)
-- mended by fixpz.py
namespace Go.Proofs.Ytgohmganimamcaa.PZ
open Go.RowKit Go.Proofs.YtgohmganimamcaaW.PrintWords Go.Proofs.YtgohmganimamcaaW.PrintLast Go.Proofs.YtgohmganimamcaaW.PrintMore
attribute [local go_sem] max2_int min2_int max_two min_two max_three min_three max_four min_four   -- for this text's walks alone
set_option linter.unusedVariables false
set_option linter.unusedSimpArgs false

end Go.Proofs.Ytgohmganimamcaa.PZ
-- printed for this claim by a program (pall.sh)
-- mended by fixpz.py
namespace Go.Proofs.Ytgohmganimamcaa.PZ
open Go.RowKit Go.Proofs.YtgohmganimamcaaW.PrintWords Go.Proofs.YtgohmganimamcaaW.PrintLast Go.Proofs.YtgohmganimamcaaW.PrintMore
attribute [local go_sem] max2_int min2_int max_two min_two max_three min_three max_four min_four   -- for this text's walks alone
set_option linter.unusedVariables false
set_option linter.unusedSimpArgs false

end Go.Proofs.Ytgohmganimamcaa.PZ
/- What the lowest functions come to: numbers and texts as bytes, lists that are the same. -/
namespace Go.Proofs.Ytgohmganimamcaa.Lo
open Go.Proofs.Ytgohmganimamcaa.Base Go.Proofs.Ytgohmganimamcaa.TlvPlain Go.Proofs.Ytgohmganimamcaa.Aid Go.RowKit Go.Proofs.YtgohmganimamcaaW.PrintWords Go.Proofs.YtgohmganimamcaaW.PrintLast Go.Proofs.YtgohmganimamcaaW.PrintMore Go.Proofs.Ytgohmganimamcaa.PZ

/-- A number's bytes, the highest first. -/
def be (n : Nat) : List Int := if n = 0 then [] else be (n / 256) ++ [((n % 256 : Nat) : Int)]
termination_by n
decreasing_by omega
def numB (n : Int) : List Int := ((be n.toNat).length : Int) :: be n.toNat
def textB (l : List Int) : List Int := numB l.length ++ l
theorem be_zero : be 0 = [] := by unfold be; rfl
theorem be_pos {n : Nat} (h : 0 < n) : be n = be (n / 256) ++ [((n % 256 : Nat) : Int)] := by
  rw [be, if_neg (by omega)]
theorem be_len {k : Nat} : ∀ {n : Nat}, n < 256 ^ k → (be n).length ≤ k := by
  induction k with
  | zero => intro n h; have : n = 0 := by omega
            subst this; rw [be_zero]; simp
  | succ k ih =>
    intro n h
    by_cases h0 : n = 0
    · subst h0; rw [be_zero]; simp
    · rw [be_pos (by omega), List.length_append, List.length_singleton]
      have := ih (n := n / 256) (by rw [Nat.pow_succ] at h; omega)
      omega
theorem be_value (n : Nat) : valueB (be n) = n := by
  induction n using Nat.strongRecOn with
  | ind n ih =>
    by_cases h0 : n = 0
    · subst h0; rw [be_zero]; rfl
    · rw [be_pos (by omega), valueB_snoc, ih (n / 256) (by omega)]
      omega
theorem be_head (n : Nat) (h : 0 < n) : ∃ x xs, be n = x :: xs ∧ 0 < x := by
  induction n using Nat.strongRecOn with
  | ind n ih =>
    rw [be_pos h]
    by_cases h0 : n / 256 = 0
    · rw [h0, be_zero]
      exact ⟨_, [], rfl, by omega⟩
    · obtain ⟨x, xs, e, hx⟩ := ih (n / 256) (by omega) (by omega)
      rw [e]
      exact ⟨x, xs ++ [_], rfl, hx⟩
theorem be_len8 {n : Int} (h1 : n ≤ 18446744073709551615) : (be n.toNat).length ≤ 8 := be_len (by
  have : (256 : Nat) ^ 8 = 18446744073709551616 := by decide +kernel
  omega)
theorem numB_len {n : Int} (h1 : n ≤ 18446744073709551615) : (numB n).length ≤ 9 := by
  unfold numB; rw [List.length_cons]; have := be_len8 h1; omega
/-! ### Num, as the program has it -/
theorem num_fill (w : Int) : ∀ (i m : Nat) (t : List Int), (be m).length = i → m ≤ 18446744073709551615 → i ≤ 8 →
    Ev (fun k => tlv_Num.l1 k (m : Int) (w :: (List.replicate i 0 ++ t)) (i : Int)) (w :: (be m ++ t)) := by
  intro i
  induction i with
  | zero =>
    intro m t hi hm h8
    refine Ev.step (fun k => by simp only [tlv_Num.l1]; rfl) ?_
    refine neg (by omega) (now ?_)
    have : be m = [] := List.length_eq_zero_iff.1 hi
    rw [this]; rfl
  | succ i ih =>
    intro m t hi hm h8
    have hm0 : 0 < m := by
      rcases Nat.eq_zero_or_pos m with h | h
      · subst h; rw [be_zero] at hi; cases hi
      · exact h
    have hb := be_pos hm0
    refine Ev.step (fun k => by simp only [tlv_Num.l1]; rfl) ?_
    refine pos (by omega) (pos (by omega) (pos (by simp; omega) ?_))
    have e1 : wrap64 (((i + 1 : Nat) : Int) - 1) = (i : Int) := by rw [w64 (by omega) (by omega)]; omega
    have e2 : ((m : Int) % 256) = ((m % 256 : Nat) : Int) := by omega
    have e3 : ((m : Int) / 256) = ((m / 256 : Nat) : Int) := by omega
    have e4 : (w :: (List.replicate (i + 1) 0 ++ t)).set (((i + 1 : Nat) : Int)).toNat ((m : Int) % 256) = w :: (List.replicate i 0 ++ (((m % 256 : Nat) : Int) :: t)) := by
      rw [Int.toNat_natCast, List.set_cons_succ, e2, List.replicate_succ']
      congr 1
      rw [List.append_assoc, List.set_append_right _ _ (by simp)]
      simp
    rw [e1, e3, e4]
    have := ih (m / 256) (((m % 256 : Nat) : Int) :: t) (by rw [hb] at hi; simpa using hi) (by omega) (by omega)
    rw [hb, List.append_assoc]
    exact this
theorem num_count (n : Int) (hn0 : 0 ≤ n) (hn1 : n ≤ 18446744073709551615) : ∀ (m c : Nat), c + (be m).length = (be n.toNat).length → m ≤ 18446744073709551615 →
    Ev (fun k => tlv_Num.l0 k n (c : Int) (m : Int)) (numB n) := by
  intro m
  induction m using Nat.strongRecOn with
  | ind m ih =>
    intro c hc hm
    have h8 := be_len8 hn1
    refine Ev.step (fun k => by simp only [tlv_Num.l0]; rfl) ?_
    by_cases h0 : m = 0
    · subst h0
      rw [be_zero] at hc
      simp only [List.length_nil, Nat.add_zero] at hc
      have e1 : wrap64 (1 + (c : Int)) = ((c + 1 : Nat) : Int) := by rw [w64 (by omega) (by omega)]; omega
      rw [e1, Int.toNat_natCast]
      refine neg (by omega) (pos (by omega) (pos (by omega) ?_))
      refine bindSome rfl (pos (by simp) ?_)
      have e2 : (List.replicate (c + 1) (0 : Int)).set ((0 : Int)).toNat ((c : Int) % 256) = (c : Int) :: (List.replicate c 0 ++ []) := by
        rw [List.replicate_succ, show ((0 : Int)).toNat = 0 from rfl, List.set_cons_zero, List.append_nil, Int.emod_eq_of_lt (by omega) (by omega)]
      rw [e2]
      obtain ⟨q, rfl⟩ := Int.eq_ofNat_of_zero_le hn0
      have := num_fill (c : Int) c q [] (by rw [hc]; rfl) (by omega) (by omega)
      unfold numB
      rw [Int.toNat_natCast] at hc ⊢
      rw [← hc]
      simpa using this
    · refine pos (by omega) ?_
      have hb := be_pos (show 0 < m by omega)
      rw [hb, List.length_append, List.length_singleton] at hc
      have e1 : wrap64 ((c : Int) + 1) = ((c + 1 : Nat) : Int) := by rw [w64 (by omega) (by omega)]; omega
      have e3 : ((m : Int) / 256) = ((m / 256 : Nat) : Int) := by omega
      rw [e1, e3]
      exact ih (m / 256) (by omega) (c + 1) (by omega) (by omega)
theorem num_ev (n : Int) (hn0 : 0 ≤ n) (hn1 : n ≤ 18446744073709551615) : Ev (fun k => tlv_Num.f k n) (numB n) := by
  have := num_count n hn0 hn1 n.toNat 0 (by omega) (by omega)
  rw [show ((n.toNat : Nat) : Int) = n from by omega] at this
  exact this
/-! ### texts and ints -/
theorem len_u64 (l : List Int) (h : l.length < 140737488355000) : IntKind.u64.wrap ((l.length : Nat) : Int) = l.length := u64 (by omega) (by omega)
theorem text_ev (l : List Int) (h : l.length < 140737488355000) : Ev (fun k => tlv_Text.f k l) (textB l) := by
  unfold tlv_Text.f
  rw [len_u64 l h]
  refine evBind (num_ev _ (by omega) (by omega)) (pos ?_ (now rfl))
  have := numB_len (n := (l.length : Int)) (by omega)
  omega
theorem same_from (a b : List Int) (hl : a.length = b.length) (hn : a.length ≤ 4611686018427387904) : ∀ (d i : Nat), i + d = a.length →
    Ev (fun k => hanaperref01_Same.l0 k a b i) (decide (a.drop i = b.drop i)) := by
  intro d
  induction d with
  | zero =>
    intro i hi
    refine Ev.step (fun k => by simp only [hanaperref01_Same.l0]; rfl) ?_
    refine neg (by omega) (now ?_)
    rw [List.drop_of_length_le (by omega), List.drop_of_length_le (by omega)]; simp
  | succ d ih =>
    intro i hi
    refine Ev.step (fun k => by simp only [hanaperref01_Same.l0]; rfl) ?_
    refine pos (by omega) (pos (by omega) (pos (by omega) ?_))
    rw [rd_nat a i (by omega), rd_nat b i (by omega), drop_cons a i (by omega), drop_cons b i (by omega), inc (show i < a.length by omega) hn]
    by_cases e : a[i]'(by omega) = b[i]'(by omega)
    · refine pos e ?_
      have := ih (i + 1) (by omega)
      generalize a.drop (i + 1) = A at this ⊢
      generalize b.drop (i + 1) = B at this ⊢
      simpa [e] using this
    · refine neg e (now ?_)
      generalize a.drop (i + 1) = A
      generalize b.drop (i + 1) = B
      simp [e]
theorem same_ev (a b : List Int) (hn : a.length ≤ 4611686018427387904) : Ev (fun k => hanaperref01_Same.f k a b) (decide (a = b)) := by
  unfold hanaperref01_Same.f
  by_cases e : a.length = b.length
  · refine pos (by omega) ?_
    simpa using same_from a b e hn a.length 0 (by omega)
  · refine neg (by omega) (now ?_)
    have : a ≠ b := fun h => e (by rw [h])
    simp [this]
/-! ### what was put is read -/
theorem numO_numB (n : Int) (hn0 : 0 ≤ n) (hn1 : n ≤ 18446744073709551615) (rest : List Int) : numO (some (numB n ++ rest)) = (n, some rest) := by
  have h8 := be_len8 hn1
  unfold numB numO
  simp only [List.cons_append]
  rw [if_neg (by omega), if_neg (by rw [List.length_append]; omega), if_neg, Int.toNat_natCast]
  · rw [List.take_left', List.drop_left', be_value]
    · rw [Int.toNat_of_nonneg hn0]
    · rfl
    · rfl
  · rintro ⟨h1, h2⟩
    have : 0 < n.toNat := by
      rcases Nat.eq_zero_or_pos n.toNat with h | h
      · rw [h, be_zero] at h1; simp at h1
      · exact h
    obtain ⟨x, xs, e, hx⟩ := be_head n.toNat this
    rw [e] at h2
    simp at h2
    omega
/-- What is read as a number is just what is made of it. -/
theorem be_unique : ∀ (l : List Int), U8 l → (l = [] ∨ l.getD 0 0 ≠ 0) → be (valueB l).toNat = l := by
  have H : ∀ n (l : List Int), l.length = n → U8 l → (l = [] ∨ l.getD 0 0 ≠ 0) → be (valueB l).toNat = l := by
    intro n
    induction n with
    | zero =>
      intro l hl _ _
      have : l = [] := List.length_eq_zero_iff.1 hl
      subst this
      exact be_zero
    | succ n ih =>
      intro l hl hu hh
      have hne : l ≠ [] := by intro e; rw [e] at hl; cases hl
      have hd := List.dropLast_concat_getLast hne
      have hu1 : U8 l.dropLast := fun x hx => hu x ((List.dropLast_sublist l).subset hx)
      have hx := hu (l.getLast hne) (List.getLast_mem hne)
      have hr := valueB_range hu1
      have h0 : l.getD 0 0 ≠ 0 := hh.resolve_left hne
      have ih' := ih l.dropLast (by simp [hl]) hu1 (by
        by_cases e : l.dropLast = []
        · exact .inl e
        · right
          intro e2
          apply h0
          have := List.length_pos_iff.2 e
          rw [← hd, List.getD_eq_getElem?_getD, List.getElem?_append_left this, ← List.getD_eq_getElem?_getD]
          exact e2)
      have hpos : 0 < (valueB l).toNat := by
        rw [← hd, valueB_snoc]
        by_cases e : l.dropLast = []
        · rw [e] at hd ⊢
          rw [← hd] at h0
          have : l.getLast hne ≠ 0 := by simpa using h0
          simp only [valueB, List.foldl_nil]
          omega
        · have hv : valueB l.dropLast ≠ 0 := by
            intro e2
            rw [e2] at ih'
            rw [show (0 : Int).toNat = 0 from rfl, be_zero] at ih'
            exact e ih'.symm
          omega
      rw [be_pos hpos]
      have e1 : (valueB l).toNat / 256 = (valueB l.dropLast).toNat := by
        have : valueB l = valueB l.dropLast * 256 + l.getLast hne := by rw [← valueB_snoc, hd]
        omega
      have e2 : (((valueB l).toNat % 256 : Nat) : Int) = l.getLast hne := by
        have : valueB l = valueB l.dropLast * 256 + l.getLast hne := by rw [← valueB_snoc, hd]
        omega
      rw [e1, e2, ih', hd]
  exact fun l hu hh => H _ l rfl hu hh
theorem numO_back {b : List Int} (hu : U8 b) {m : Int} {r : List Int} (h : numO (some b) = (m, some r)) : b = numB m ++ r ∧ 0 ≤ m ∧ m ≤ 18446744073709551615 := by
  have hr := numO_range (st := some b) (fun _ e => by cases e; exact hu)
  rw [h] at hr
  refine ⟨?_, hr⟩
  cases b with
  | nil => simp [numO] at h
  | cons x t =>
    simp only [numO] at h
    have hx := hu.head
    by_cases h1 : x > 8
    · rw [if_pos h1] at h; simp at h
    rw [if_neg h1] at h
    by_cases h2 : (t.length : Int) < x
    · rw [if_pos h2] at h; simp at h
    rw [if_neg h2] at h
    by_cases h3 : 0 < x ∧ t.getD 0 0 = 0
    · rw [if_pos h3] at h; simp at h
    rw [if_neg h3] at h
    simp only [Prod.mk.injEq, Option.some.injEq] at h
    obtain ⟨rfl, rfl⟩ := h
    have hb := be_unique (t.take x.toNat) (hu.tail.take _) (by
      by_cases h0 : 0 < x
      · right
        intro e
        apply h3
        refine ⟨h0, ?_⟩
        cases t with
        | nil => simp
        | cons y t =>
          obtain ⟨q, hq⟩ : ∃ q, x.toNat = q + 1 := ⟨x.toNat - 1, by omega⟩
          rw [hq] at e
          simpa using e
      · left
        have : x.toNat = 0 := by omega
        rw [this]; rfl)
    unfold numB
    rw [hb, List.length_take, Nat.min_eq_left (by omega), List.cons_append, List.take_append_drop]
    congr 1
    omega
end Go.Proofs.Ytgohmganimamcaa.Lo
/- What was put is read, what was read is put: a reader in plain words. -/
namespace Go.Proofs.Ytgohmganimamcaa.RdPlain
open Go.RowKit Go.Proofs.Ytgohmganimamcaa.Base Go.Proofs.Ytgohmganimamcaa.TlvPlain Go.Proofs.Ytgohmganimamcaa.Lo Go.Proofs.YtgohmganimamcaaW.PrintWords
theorem count_none (m : Int) : countO none m = (0, none) := by unfold countO; split <;> rfl
theorem text_none (m : Int) : textO none m = ([], none) := by unfold textO; rw [count_none]; rfl
theorem num_none : numO none = (0, none) := rfl
theorem count_numB {n most : Int} (h0 : 0 ≤ n) (h1 : n ≤ most) (hm : most ≤ 18446744073709551615) (r : List Int) : countO (some (numB n ++ r)) most = (n, some r) := by
  unfold countO
  rw [numO_numB n h0 (by omega) r, if_neg (by simp; omega)]
theorem take_app (l r : List Int) : takeO (some (l ++ r)) (l.length : Int) = (l, some r) := by
  simp only [takeO]
  rw [if_pos ⟨by omega, by simp; omega⟩]
  simp
theorem text_textB {l : List Int} {most : Int} (h : (l.length : Int) ≤ most) (hm : most ≤ 18446744073709551615) (r : List Int) : textO (some (textB l ++ r)) most = (l, some r) := by
  unfold textO textB
  rw [List.append_assoc, count_numB (by omega) h hm]
  exact take_app l r
theorem count_back {b : List Int} (hu : U8 b) {most m : Int} {r : List Int} (h : countO (some b) most = (m, some r)) : b = numB m ++ r ∧ 0 ≤ m ∧ m ≤ most := by
  unfold countO at h
  split at h
  · cases h
  · next hc =>
    obtain ⟨h1, h2, _⟩ := numO_back hu h
    rw [h] at hc
    exact ⟨h1, h2, by simp at hc; omega⟩
theorem take_back {b : List Int} {n : Int} {t r : List Int} (h : takeO (some b) n = (t, some r)) : b = t ++ r ∧ (t.length : Int) = n := by
  simp only [takeO] at h
  split at h
  · next hc =>
    cases h
    exact ⟨(List.take_append_drop _ _).symm, by rw [List.length_take]; omega⟩
  · cases h
theorem text_back {b : List Int} (hu : U8 b) {most : Int} {t r : List Int} (h : textO (some b) most = (t, some r)) : b = textB t ++ r ∧ (t.length : Int) ≤ most := by
  unfold textO at h
  obtain ⟨m, s, hc⟩ : ∃ m s, countO (some b) most = (m, s) := ⟨_, _, rfl⟩
  rw [hc] at h
  cases s with
  | none => simp [takeO] at h
  | some s =>
    obtain ⟨h1, h2, h3⟩ := count_back hu hc
    obtain ⟨h4, h5⟩ := take_back h
    refine ⟨?_, by omega⟩
    rw [h1, h4, textB, h5, List.append_assoc]
theorem U8.right {a b : List Int} (h : U8 (a ++ b)) : U8 b := fun x hx => h x (List.mem_append_right _ hx)
theorem U8.left {a b : List Int} (h : U8 (a ++ b)) : U8 a := fun x hx => h x (List.mem_append_left _ hx)
theorem bytes_str {t : List Int} (hu : U8 t) : bytesOf (strOfNums t) = t := by
  unfold bytesOf
  rw [strOfNums_data, List.map_map]
  conv => rhs; rw [← List.map_id t]
  refine List.map_congr_left (fun x hx => ?_)
  have := hu x hx
  show (((UInt8.ofNat x.toNat).toNat : Nat) : Int) = x
  rw [UInt8.toNat_ofNat']
  omega
theorem textO_u8' {b : List Int} (hu : U8 b) {most : Int} {t r : List Int} (h : textO (some b) most = (t, some r)) : U8 t ∧ U8 r := by
  have := text_back hu h
  rw [this.1] at hu
  exact ⟨U8.right (a := numB t.length) (by have := U8.left hu; unfold textB at this; exact this), U8.right hu⟩
/-- So many things, one behind the other. -/
def readK {α : Type} (rd : Option (List Int) → Option (α × List Int)) : Nat → Option (List Int) → Option (List α × Option (List Int))
  | 0, st => some ([], st)
  | n + 1, st => match rd st with
    | none => none
    | some (k, r) => match readK rd n (some r) with
      | none => none
      | some (ks, s) => some (k :: ks, s)
theorem readK_put {α : Type} {rd : Option (List Int) → Option (α × List Int)} {put : α → List Int} : ∀ (ks : List α) (r : List Int), (∀ k ∈ ks, ∀ r, rd (some (put k ++ r)) = some (k, r)) → readK rd ks.length (some ((ks.map put).flatten ++ r)) = some (ks, some r)
  | [], r, _ => rfl
  | k :: ks, r, h => by
    rw [List.map_cons, List.flatten_cons, List.length_cons, readK, List.append_assoc, h k List.mem_cons_self]
    dsimp only
    rw [readK_put ks r (fun k hk => h k (List.mem_cons_of_mem _ hk))]
theorem readK_back {α : Type} {rd : Option (List Int) → Option (α × List Int)} {put : α → List Int} (ih : ∀ b x r, U8 b → rd (some b) = some (x, r) → b = put x ++ r ∧ U8 r) : ∀ (n : Nat) (b : List Int) (ks : List α) (r : List Int), U8 b → readK rd n (some b) = some (ks, some r) → ks.length = n ∧ b = (ks.map put).flatten ++ r ∧ U8 r
  | 0, b, ks, r, hu, h => by
    simp only [readK, Option.some.injEq, Prod.mk.injEq] at h
    obtain ⟨rfl, rfl⟩ := h
    exact ⟨rfl, rfl, hu⟩
  | n + 1, b, ks, r, hu, h => by
    rw [readK] at h
    cases hr : rd (some b) with
    | none => rw [hr] at h; cases h
    | some p =>
      obtain ⟨x, s⟩ := p
      rw [hr] at h
      dsimp only at h
      obtain ⟨e1, u1⟩ := ih b x s hu hr
      cases hk : readK rd n (some s) with
      | none => rw [hk] at h; cases h
      | some q =>
        obtain ⟨ks2, s2⟩ := q
        rw [hk] at h
        simp only [Option.some.injEq, Prod.mk.injEq] at h
        obtain ⟨rfl, rfl⟩ := h
        obtain ⟨l1, l2, l3⟩ := readK_back ih n s ks2 r u1 hk
        exact ⟨by rw [List.length_cons, l1], by rw [List.map_cons, List.flatten_cons, e1, l2, List.append_assoc], l3⟩
theorem readK_none {α : Type} {rd : Option (List Int) → Option (α × List Int)} (hn : rd none = none) {n : Nat} {ks : List α} {s : List Int} (hk : readK rd n none = some (ks, some s)) : False := by
  cases n with
  | zero => simp [readK] at hk
  | succ n => rw [readK, hn] at hk; cases hk
theorem readK_all {α : Type} {rd : Option (List Int) → Option (α × List Int)} {Pr : α → Prop} (ih : ∀ b x r, U8 b → rd (some b) = some (x, r) → Pr x ∧ U8 r) : ∀ (n : Nat) (b : List Int) (ks : List α) (s : Option (List Int)), U8 b → readK rd n (some b) = some (ks, s) → ∀ k ∈ ks, Pr k
  | 0, b, ks, s, hu, h => by
    simp only [readK, Option.some.injEq, Prod.mk.injEq] at h
    rw [← h.1]
    exact fun k hk => by cases hk
  | n + 1, b, ks, s, hu, h => by
    rw [readK] at h
    cases hr : rd (some b) with
    | none => rw [hr] at h; cases h
    | some p =>
      obtain ⟨x, s1⟩ := p
      rw [hr] at h
      dsimp only at h
      obtain ⟨e1, u1⟩ := ih b x s1 hu hr
      cases hk : readK rd n (some s1) with
      | none => rw [hk] at h; cases h
      | some q =>
        obtain ⟨ks2, s2⟩ := q
        rw [hk] at h
        simp only [Option.some.injEq, Prod.mk.injEq] at h
        obtain ⟨rfl, rfl⟩ := h
        intro k hk2
        rcases List.mem_cons.1 hk2 with rfl | hk2
        · exact e1
        · exact readK_all ih n s1 ks2 _ u1 hk k hk2
end Go.Proofs.Ytgohmganimamcaa.RdPlain
/- Terms in plain words: which may be, their bytes, which term bytes begin with; what was put is got, and back. -/
namespace Go.Proofs.Ytgohmganimamcaa.Term
set_option linter.unusedVariables false
set_option linter.unusedSimpArgs false
open Go.RowKit Go.Proofs.Ytgohmganimamcaa.Base Go.Proofs.Ytgohmganimamcaa.TlvPlain Go.Proofs.Ytgohmganimamcaa.Lo Go.Proofs.Ytgohmganimamcaa.RdPlain Go.Proofs.YtgohmganimamcaaW.PrintWords Go.Proofs.Ytgohmganimamcaa.PZ Go.Proofs.Ytgohmganimamcaa.Aid
/-- What a term of some kind has: it is there, a number, data, so many kids. -/
def thereB (k : Int) : Bool := decide (1 ≤ k ∧ k ≤ 6)
def numT (k : Int) : Bool := decide (k = 1 ∨ k = 2 ∨ k = 5)
def datT (k : Int) : Bool := decide (k = 3)
def kidT (k : Int) : Nat := if k = 4 ∨ k = 5 then 2 else if k = 6 then 1 else 0
abbrev ST := S26
def kid1 (x : ST) : Int := (x.f3.getD 1 z26).f0
/-- May a term be, at most so deep? -/
def mayT : Nat → ST → Bool
  | 0, _ => false
  | d + 1, x => thereB x.f0 && (decide (x.f3.length = kidT x.f0) && ((numT x.f0 || decide (x.f1 = 0)) && ((datT x.f0 || decide (x.f2.length = 0)) && (decide (x.f2.length ≤ 100) && (!(decide (x.f0 = 5) && !decide (kid1 x = 2)) && x.f3.all (mayT d))))))
def headT (x : ST) : List Int := (if numT x.f0 = true then numB x.f1 else []) ++ (if datT x.f0 = true then textB x.f2 else [])
mutual
/-- A term's bytes. -/
def putT : ST → List Int
  | ⟨k, n, d, ks⟩ => (k % 256) :: (headT ⟨k, n, d, []⟩ ++ putTs ks)
def putTs : List ST → List Int
  | [] => []
  | k :: ks => putT k ++ putTs ks
end
theorem putTs_map : ∀ ks : List ST, putTs ks = (ks.map putT).flatten
  | [] => by rw [putTs]; rfl
  | k :: ks => by rw [putTs, putTs_map ks]; rfl
theorem putT_eq (x : ST) : putT x = (x.f0 % 256) :: (headT x ++ (x.f3.map putT).flatten) := by
  obtain ⟨_, _, _, _⟩ := x
  rw [putT, putTs_map]
  rfl
def putV (x : ST) : List Int × Int := if mayT 8 x = true then (if ((putT x).length : Int) > 400 then ([], 3) else (putT x, 0)) else ([], 1)
mutual
/-- All numbers are words, all data bytes. -/
def wfT : ST → Prop
  | ⟨_, n, d, ks⟩ => (0 ≤ n ∧ n ≤ 18446744073709551615) ∧ U8 d ∧ wfTs ks
def wfTs : List ST → Prop
  | [] => True
  | k :: ks => wfT k ∧ wfTs ks
end
theorem wfTs_mem : ∀ {ks : List ST} {k : ST}, wfTs ks → k ∈ ks → wfT k
  | x :: ks, k, h, hk => by
    rw [wfTs] at h
    rcases List.mem_cons.1 hk with rfl | hk
    · exact h.1
    · exact wfTs_mem h.2 hk
theorem wfTs_of : ∀ {ks : List ST}, (∀ k ∈ ks, wfT k) → wfTs ks
  | [], _ => by rw [wfTs]; trivial
  | k :: ks, h => by rw [wfTs]; exact ⟨h k List.mem_cons_self, wfTs_of (fun x hx => h x (List.mem_cons_of_mem _ hx))⟩
theorem wfT_eq (x : ST) : wfT x ↔ (0 ≤ x.f1 ∧ x.f1 ≤ 18446744073709551615) ∧ U8 x.f2 ∧ ∀ k ∈ x.f3, wfT k := by
  obtain ⟨k, n, d, ks⟩ := x
  rw [wfT]
  exact ⟨fun h => ⟨h.1, h.2.1, fun k hk => wfTs_mem h.2.2 hk⟩, fun h => ⟨h.1, h.2.1, wfTs_of h.2.2⟩⟩
def numR (k : Int) (st : Option (List Int)) : Int × Option (List Int) := if numT k = true then numO st else (0, st)
def datR (k : Int) (st : Option (List Int)) : List Int × Option (List Int) := if datT k = true then textO st 100 else ([], st)
/-- The next term, at most so deep. -/
def readT : Nat → Option (List Int) → Option (ST × List Int)
  | 0, _ => none
  | deep + 1, st => match (takeO st 1).2 with
    | none => none
    | some r => if thereB ((takeO st 1).1.getD 0 0) = true then
        match readK (readT deep) (kidT ((takeO st 1).1.getD 0 0)) (datR ((takeO st 1).1.getD 0 0) (numR ((takeO st 1).1.getD 0 0) (some r)).2).2 with
        | some (ks, some s) => some (⟨(takeO st 1).1.getD 0 0, (numR ((takeO st 1).1.getD 0 0) (some r)).1, (datR ((takeO st 1).1.getD 0 0) (numR ((takeO st 1).1.getD 0 0) (some r)).2).1, ks⟩, s)
        | _ => none
      else none
def zT : ST := ⟨0, 0, [], []⟩
/-- Which term bytes begin with, and how many of them. -/
def getT (b : List Int) : ST × Int × Int :=
  match readT 8 (some (b.take 400)) with
  | some (x, r) => if mayT 8 x = true then (x, ((b.take 400).length : Int) - r.length, 0) else (zT, 0, 2)
  | none => (zT, 0, 2)
theorem may_parts {d : Nat} {x : ST} (h : mayT (d + 1) x = true) : thereB x.f0 = true ∧ x.f3.length = kidT x.f0 ∧ (numT x.f0 = true ∨ x.f1 = 0) ∧ (datT x.f0 = true ∨ x.f2 = []) ∧ x.f2.length ≤ 100 ∧ (x.f0 = 5 → kid1 x = 2) ∧ ∀ k ∈ x.f3, mayT d k = true := by
  rw [mayT] at h
  simp only [Bool.and_eq_true, Bool.or_eq_true, decide_eq_true_eq, List.all_eq_true, Bool.not_eq_true', Bool.and_eq_false_iff, decide_eq_false_iff_not, Bool.not_eq_false'] at h
  obtain ⟨a, b, c, d, e, f, g⟩ := h
  refine ⟨a, b, c, d.imp id (fun h => List.length_eq_zero_iff.1 h), e, fun h5 => ?_, g⟩
  rcases f with f | f
  · exact absurd h5 f
  · exact f
theorem read_put : ∀ (d : Nat) (x : ST), mayT d x = true → wfT x → ∀ r, readT d (some (putT x ++ r)) = some (x, r) := by
  intro d
  induction d with
  | zero => intro x h; rw [mayT] at h; cases h
  | succ d ih =>
    intro x h hw r
    obtain ⟨h1, h2, h3, h4, h5, _, h7⟩ := may_parts h
    obtain ⟨w1, w2, w3⟩ := (wfT_eq x).1 hw
    have hop : 1 ≤ x.f0 ∧ x.f0 ≤ 6 := by unfold thereB at h1; simpa using h1
    have t : takeO (some (putT x ++ r)) 1 = ([x.f0], some (headT x ++ ((x.f3.map putT).flatten ++ r))) := by
      rw [putT_eq, List.cons_append, List.append_assoc]
      simp only [takeO]
      rw [if_pos (by rw [List.length_cons]; omega), show x.f0 % 256 = x.f0 by omega]
      rfl
    have n1 : ∀ r, numR x.f0 (some ((if numT x.f0 = true then numB x.f1 else []) ++ r)) = (x.f1, some r) := by
      intro r
      unfold numR
      by_cases c : numT x.f0 = true
      · rw [if_pos c, if_pos c, numO_numB x.f1 w1.1 w1.2]
      · rw [if_neg c, if_neg c, h3.resolve_left c]; rfl
    have d1 : ∀ r, datR x.f0 (some ((if datT x.f0 = true then textB x.f2 else []) ++ r)) = (x.f2, some r) := by
      intro r
      unfold datR
      by_cases c : datT x.f0 = true
      · rw [if_pos c, if_pos c, text_textB (by omega) (by decide)]
      · rw [if_neg c, if_neg c, h4.resolve_left c]; rfl
    rw [readT, t]
    simp only [List.getD_cons_zero]
    rw [if_pos h1, headT, List.append_assoc, n1]
    dsimp only
    rw [d1]
    dsimp only
    rw [← h2, readK_put x.f3 r (fun k hk => ih k (h7 k hk) (w3 k hk))]
    obtain ⟨_, _, _, _⟩ := x
    rfl
theorem num_back {k : Int} {b : List Int} (hu : U8 b) {n : Int} {r : List Int} (h : numR k (some b) = (n, some r)) : b = (if numT k = true then numB n else []) ++ r ∧ U8 r ∧ 0 ≤ n ∧ n ≤ 18446744073709551615 := by
  unfold numR at h
  by_cases c : numT k = true
  · rw [if_pos c] at h ⊢
    obtain ⟨h1, h2, h3⟩ := numO_back hu h
    exact ⟨h1, by rw [h1] at hu; exact U8.right hu, h2, h3⟩
  · rw [if_neg c] at h ⊢
    cases h
    exact ⟨rfl, hu, by decide, by decide⟩
theorem dat_back {k : Int} {b : List Int} (hu : U8 b) {t r : List Int} (h : datR k (some b) = (t, some r)) : b = (if datT k = true then textB t else []) ++ r ∧ U8 r ∧ U8 t := by
  unfold datR at h
  by_cases c : datT k = true
  · rw [if_pos c] at h ⊢
    have := textO_u8' hu h
    exact ⟨(text_back hu h).1, this.2, this.1⟩
  · rw [if_neg c] at h ⊢
    cases h
    exact ⟨rfl, hu, U8.nil⟩
theorem read_back : ∀ (d : Nat) (b : List Int) (x : ST) (r : List Int), U8 b → readT d (some b) = some (x, r) → b = putT x ++ r ∧ U8 r := by
  intro d
  induction d with
  | zero => intro b x r _ h; cases h
  | succ d ih =>
    intro b x r hu h
    rw [readT] at h
    cases b with
    | nil => simp [takeO] at h
    | cons c b =>
      have t : takeO (some (c :: b)) 1 = ([c], some b) := by
        simp only [takeO]
        rw [if_pos (by rw [List.length_cons]; omega)]
        rfl
      rw [t] at h
      simp only [List.getD_cons_zero] at h
      split at h
      · next ht =>
        obtain ⟨n, s1, hn⟩ : ∃ n s, numR c (some b) = (n, s) := ⟨_, _, rfl⟩
        rw [hn] at h
        dsimp only at h
        obtain ⟨dt, s2, hd⟩ : ∃ n s, datR c s1 = (n, s) := ⟨_, _, rfl⟩
        rw [hd] at h
        dsimp only at h
        cases hk : readK (readT d) (kidT c) s2 with
        | none => rw [hk] at h; cases h
        | some q =>
          obtain ⟨ks, s3⟩ := q
          rw [hk] at h
          cases s3 with
          | none => cases h
          | some s3 =>
            simp only [Option.some.injEq, Prod.mk.injEq] at h
            obtain ⟨rfl, rfl⟩ := h
            cases s2 with
            | none => exact (readK_none (by cases d <;> rfl) hk).elim
            | some s2 =>
              cases s1 with
              | none =>
                unfold datR at hd
                split at hd
                · rw [text_none] at hd; cases hd
                · cases hd
              | some s1 =>
                obtain ⟨e1, u1, _⟩ := num_back hu.tail hn
                obtain ⟨e2, u2, _⟩ := dat_back u1 hd
                obtain ⟨l1, l2, l3⟩ := readK_back (put := putT) ih (kidT c) s2 ks s3 u2 hk
                refine ⟨?_, l3⟩
                rw [putT_eq]
                dsimp only [headT]
                have hc := hu.head
                rw [show c % 256 = c by omega, List.cons_append, List.append_assoc, List.append_assoc, ← l2, ← e2, ← e1]
      · cases h
theorem read_wf : ∀ (d : Nat) (b : List Int) (x : ST) (r : List Int), U8 b → readT d (some b) = some (x, r) → wfT x ∧ U8 r := by
  intro d
  induction d with
  | zero => intro b x r _ h; cases h
  | succ d ih =>
    intro b x r hu h
    refine ⟨?_, (read_back _ b x r hu h).2⟩
    rw [readT] at h
    cases b with
    | nil => simp [takeO] at h
    | cons c b =>
      have t : takeO (some (c :: b)) 1 = ([c], some b) := by
        simp only [takeO]
        rw [if_pos (by rw [List.length_cons]; omega)]
        rfl
      rw [t] at h
      simp only [List.getD_cons_zero] at h
      split at h
      · next ht =>
        obtain ⟨n, s1, hn⟩ : ∃ n s, numR c (some b) = (n, s) := ⟨_, _, rfl⟩
        rw [hn] at h
        dsimp only at h
        obtain ⟨dt, s2, hd⟩ : ∃ n s, datR c s1 = (n, s) := ⟨_, _, rfl⟩
        rw [hd] at h
        dsimp only at h
        cases hk : readK (readT d) (kidT c) s2 with
        | none => rw [hk] at h; cases h
        | some q =>
          obtain ⟨ks, s3⟩ := q
          rw [hk] at h
          cases s3 with
          | none => cases h
          | some s3 =>
            simp only [Option.some.injEq, Prod.mk.injEq] at h
            obtain ⟨rfl, rfl⟩ := h
            cases s2 with
            | none => exact (readK_none (by cases d <;> rfl) hk).elim
            | some s2 =>
              cases s1 with
              | none =>
                unfold datR at hd
                split at hd
                · rw [text_none] at hd; cases hd
                · cases hd
              | some s1 =>
                obtain ⟨_, u1, n0, n1⟩ := num_back hu.tail hn
                obtain ⟨_, u2, u3⟩ := dat_back u1 hd
                rw [wfT_eq]
                exact ⟨⟨n0, n1⟩, u3, readK_all ih _ _ _ _ u2 hk⟩
      · cases h
theorem t_get_put {x : ST} (hw : wfT x) (h : mayT 8 x = true) (hl : (putT x).length ≤ 400) (more : List Int) : getT (putT x ++ more) = (x, ((putT x).length : Int), 0) := by
  unfold getT
  have e : (putT x ++ more).take 400 = putT x ++ more.take (400 - (putT x).length) := by rw [List.take_append, List.take_of_length_le hl]
  rw [e, read_put 8 x h hw]
  dsimp only
  rw [if_pos h, List.length_append]
  congr 2
  omega
end Go.Proofs.Ytgohmganimamcaa.Term
/- An argument that is a term. -/
namespace Go.Proofs.Ytgohmganimamcaa.Term
set_option linter.unusedVariables false
set_option linter.unusedSimpArgs false
open Go.RowKit Go.Proofs.YtgohmganimamcaaW.PrintWords Go.Proofs.Ytgohmganimamcaa.PZ Go.Proofs.Ytgohmganimamcaa.TlvPlain Go.Proofs.Ytgohmganimamcaa.RdPlain
theorem u8_of_wf {l : List Int} (h : ∀ y ∈ l, (Lit.int .u8 y).wf = true) : U8 l := fun y hy => by
  have := h y hy
  simp only [Lit.wf, IntKind.min, IntKind.max, IntKind.signed, IntKind.bits, Bool.and_eq_true, decide_eq_true_eq] at this
  simp at this
  omega
/-- An argument that is a term, opened. -/
theorem opensN_term : ∀ n, Open.OpensN Try.prog n 26 k26 wfT := by
  intro n
  induction n using Nat.strongRecOn with
  | _ n ih =>
  cases n with
  | zero => intro H enc w base held cs x h; simp [DataW.trod] at h
  | succ n =>
    have hs : Open.OpensN Try.prog n 24 (Kd.slice 26 k26) (fun l => ∀ k ∈ l, wfT k) := by
      cases n with
      | zero => intro H enc w base held cs x h; simp [DataW.trod] at h
      | succ n => exact Open.opensN_slice Try.underlying24 (by kernel_rfl) (ih n (by omega))
    intro H enc w base held cs x h
    obtain ⟨⟨kd, nn, dt, kids⟩, ⟨_, _, e0, rfl, _, _, e1, rfl, _, _, e2, ⟨A2, c2, rfl, hc2, hr2⟩, ⟨A, c, rfl, hc, hr⟩⟩, ok⟩ := Open.opensN_struct Try.underlying26 (by kernel_rfl) (Open.opensF_cons rfl (by kernel_rfl) (Open.opens_int Try.underlying3 n) (Open.opensF_cons rfl (by kernel_rfl) (Open.opens_int Try.underlying22 n) (Open.opensF_cons rfl (by kernel_rfl) (Open.opens_slice Try.underlying23 (by kernel_rfl) (Open.opens_int Try.underlying5) n) (Open.opensF_one rfl (by kernel_rfl) hs)))) H enc w base held cs x h
    obtain ⟨_, ok1, ok2, ok3⟩ := ok
    subst e2 e1
    rw [e0]
    refine ⟨⟨kd, nn, dt, kids⟩, k26_mk w ⟨kd, nn, dt, kids⟩ hc2 hr2 hc hr, (wfT_eq _).2 ⟨?_, u8_of_wf ok2, ok3⟩⟩
    simp only [Lit.wf, IntKind.min, IntKind.max, IntKind.signed, IntKind.bits, Bool.and_eq_true, decide_eq_true_eq] at ok1
    simp at ok1
    exact ⟨ok1.1, by have := ok1.2; dsimp only; omega⟩
theorem opens_term : Open.Opens Try.prog 26 k26 wfT := opensN_term
end Go.Proofs.Ytgohmganimamcaa.Term
-- printed for this claim by a program (pall.sh)
-- mended by fixpz.py
namespace Go.Proofs.Ytgohmganimamcaa.PZ
open Go.RowKit Go.Proofs.YtgohmganimamcaaW.PrintWords Go.Proofs.YtgohmganimamcaaW.PrintLast Go.Proofs.YtgohmganimamcaaW.PrintMore
attribute [local go_sem] max2_int min2_int max_two min_two max_three min_three max_four min_four   -- for this text's walks alone
set_option linter.unusedVariables false
set_option linter.unusedSimpArgs false

/-! ### bytes_Equal: function 53 -/
def bytes_Equal.f (l0 : List Int) (l1 : List Int) : Option (Bool) := some ((strOfNums l0).toList == (strOfNums l1).toList)
set_option maxHeartbeats 8000000 in
set_option maxRecDepth 100000 in
theorem bytes_Equal.calls (A0 : Option Addr) (c0 : Nat) (l0 : List Int) (A1 : Option Addr) (c1 : Nat) (l1 : List Int) (r : Bool) (w : World) (hr0 : Kd.C (Kd.int .u8) w A0 l0.length l0) (hc0 : l0.length ≤ c0) (hr1 : Kd.C (Kd.int .u8) w A1 l1.length l1) (hc1 : l1.length ≤ c1) (h : bytes_Equal.f l0 l1 = some r) :
  Calls Try.prog 53 #[.slice A0 l0.length c0, .slice A1 l1.length c1] w fun e w' => e = .returned (.bool r) ∧ Drawn0 w w' := by
 have HR0 := Aside0.mk hr0
 have HC0 := Aside0.mk hc0
 clear hr0 hc0
 have HR1 := Aside0.mk hr1
 have HC1 := Aside0.mk hc1
 clear hr1 hc1
 have H : (some ((strOfNums l0).toList == (strOfNums l1).toList)) = some r := h
 clear h
 obtain rfl := Option.some.inj H
 have hcv3 := Kd.C_string (P := Try.prog) (A := A0) (c := c0) Try.underlying23 Try.underlying5 Try.underlying9 HR0.out
 have hcv4 := Kd.C_string (P := Try.prog) (A := A1) (c := c1) Try.underlying23 Try.underlying5 Try.underlying9 HR1.out
 go_enter Try.func53, Try.ntmps53
 go_wp2
 go_ret
 exact ⟨by first | rfl | (simp; done) | (simp [*]; done), by repeat (first | exact Drawn0.refl _ | apply Drawn0.step)⟩

end Go.Proofs.Ytgohmganimamcaa.PZ
/- term.Same walked: whether two terms are the same. -/
namespace Go.Proofs.Ytgohmganimamcaa.Term
set_option linter.unusedVariables false
set_option linter.unusedSimpArgs false
open Go.RowKit Go.Proofs.Ytgohmganimamcaa.Base Go.Proofs.Ytgohmganimamcaa.TlvPlain Go.Proofs.Ytgohmganimamcaa.RdPlain Go.Proofs.Ytgohmganimamcaa.Aid Go.Proofs.Ytgohmganimamcaa.PZ Go.Proofs.YtgohmganimamcaaW.PrintWords Go.Proofs.YtgohmganimamcaaW.PrintLast Go.Proofs.YtgohmganimamcaaW.PrintMore
/-- Are two things the same? -/
noncomputable def eqB {α : Type} (a b : α) : Bool := @decide (a = b) (Classical.propDecidable _)
theorem eqB_true {α : Type} {a b : α} (h : a = b) : eqB a b = true := @decide_eq_true _ (Classical.propDecidable _) h
theorem eqB_false {α : Type} {a b : α} (h : a ≠ b) : eqB a b = false := @decide_eq_false _ (Classical.propDecidable _) h
theorem eqB_iff {α : Type} {a b : α} : eqB a b = true ↔ a = b := @decide_eq_true_iff _ (Classical.propDecidable _)
theorem kid_lt {x k : ST} (h : k ∈ x.f3) : SizeOf.sizeOf k < SizeOf.sizeOf x := by
  obtain ⟨a, b, c, d⟩ := x
  have := List.sizeOf_lt_of_mem h
  simp only [S26.mk.sizeOf_spec] at this ⊢
  omega
/-- A block's cells. -/
def Blk (w : World) (g T : Nat) (cs : Array Value) : Prop := w.heap[g]? = some (.cells cs T (0, 0))
theorem Blk.below {w w' : World} {g T : Nat} {cs : Array Value} (h : Blk w g T cs) (hb : Below w.heap.size w w') : Blk w' g T cs := blk_below h hb
theorem Blk.alloc {w : World} {g T : Nat} {cs : Array Value} (h : Blk w g T cs) (o : Obj) : Blk (w.alloc o) g T cs := blk_alloc h o
theorem Blk.cell {w : World} {g T : Nat} {cs : Array Value} (h : Blk w g T cs) (j : Nat) : w.cell? ⟨g, j, none⟩ = cs[j]? := blk_cell h j
theorem Blk.lt {w : World} {g T : Nat} {cs : Array Value} (h : Blk w g T cs) : g < w.heap.size := blk_lt h
theorem blk2 (w : World) (a o : Obj) : ((w.alloc a).alloc o).heap[w.heap.size + 1]? = some o := by
  have := blk_new (w.alloc a) o
  simpa using this
theorem blk1 (w : World) (a o : Obj) : ((w.alloc a).alloc o).heap[w.heap.size]? = some a := blk_alloc (blk_new _ _) _
/-- A term's rows in memory. -/
def RowsT (w : World) (x : ST) (A2 : Option Addr) (c2 : Nat) (A3 : Option Addr) (c3 : Nat) : Prop := (x.f2.length ≤ c2 ∧ Rb w A2 x.f2) ∧ x.f3.length ≤ c3 ∧ Kd.C k26 w A3 x.f3.length x.f3
theorem RowsT.below {w w' : World} {x : ST} {A2 : Option Addr} {c2 : Nat} {A3 : Option Addr} {c3 : Nat} (h : RowsT w x A2 c2 A3 c3) (hb : Below w.heap.size w w') : RowsT w' x A2 c2 A3 c3 := ⟨⟨h.1.1, Kd.C_below h.1.2 hb⟩, h.2.1, Kd.C_below h.2.2 hb⟩
def SameV (b : Bool) (x y : ST) : Prop := ∀ A2 c2 A3 c3 B2 d2 B3 d3 w, RowsT w x A2 c2 A3 c3 → RowsT w y B2 d2 B3 d3 →
  Calls Try.prog 22 #[.agg #[.int .i64 x.f0, .int .u64 x.f1, .slice A2 x.f2.length c2, .slice A3 x.f3.length c3], .agg #[.int .i64 y.f0, .int .u64 y.f1, .slice B2 y.f2.length d2, .slice B3 y.f3.length d3]] w fun e w' => e = .returned (.bool b) ∧ Below w.heap.size w w'
def SameC (x y : ST) : Prop := SameV (eqB x y) x y
theorem SameC.to {x y : ST} {b : Bool} (h : SameC x y) (e : eqB x y = b) : SameV b x y := e ▸ h
theorem bytes_eq {a b : List Int} (ha : U8 a) (hb : U8 b) : bytes_Equal.f a b = some (eqB a b) := by
  unfold bytes_Equal.f
  congr 1
  by_cases h : a = b
  · rw [eqB_true h, h]; simp
  · rw [eqB_false h]
    rw [beq_eq_false_iff_ne]
    intro e
    apply h
    rw [ByteArray.toList_eq, ByteArray.toList_eq, strOfNums_data, strOfNums_data] at e
    have e2 : strOfNums a = strOfNums b := by
      apply ByteArray.ext
      apply Array.toList_inj.1
      rw [strOfNums_data, strOfNums_data]; exact e
    rw [← bytes_str ha, ← bytes_str hb, e2]
theorem cell_al {W : World} {a : Addr} {v : Value} (h : W.cell? a = some v) (o : Obj) : (W.alloc o).cell? a = some v :=
  ((below_alloc (Below.refl W.heap.size W) o).cell (World.block_lt_of_cell? _ _ h)).trans h
set_option maxHeartbeats 4000000 in
set_option maxRecDepth 100000 in
theorem equalF (xs ys : List ST) (A B : Option Addr) (c d : Nat) (w : World) (hr : Kd.C k26 w A xs.length xs) (hs : Kd.C k26 w B ys.length ys) (hp : ∀ x ∈ xs, ∀ y ∈ ys, SameC x y) :
    Calls Try.prog 54 #[.slice A xs.length c, .slice B ys.length d, .func (.func 22) #[] #[]] w fun e w' => e = .returned (.bool (eqB xs ys)) ∧ Below w.heap.size w w' := by
  have HR := Aside0.mk hr
  have HS := Aside0.mk hs
  have HP := Aside0.mk hp
  have HM := Aside0.mk hr.2.1
  have hu24 := Try.underlying24
  have hu26 := Try.underlying26
  clear hr hs hp
  by_cases hlen : xs.length = ys.length
  · have z1 : (xs.length == ys.length) = true := by simpa using hlen
    have z2 : (xs.length != ys.length) = false := by simpa using hlen
    have z3 : ((xs.length : Int) != (ys.length : Int)) = false := by simp [hlen]
    have HL := Aside0.mk hlen
    clear hlen
    go_enter Try.func54, Try.ntmps54
    go_wp2
    go_loopg [17] xs.length (fun gf s17 wx => ∃ (i : Nat), s17 = .int .i64 (i : Int) ∧ i + gf = xs.length ∧ Below w.heap.size w wx ∧ xs.take i = ys.take i)
    case atStart => exact ⟨0, rfl, by omega, Below.refl _ _, rfl⟩
    case round =>
      obtain ⟨i, rfl, hi, hbel, hpre⟩ := hrel
      have HI := Aside0.mk hbel
      have HU := Aside0.mk hpre
      have HG := Aside0.mk hi
      clear hbel hpre hi
      by_cases hlt : i < xs.length
      · have hlt2 : i < ys.length := by have := HL.out; omega
        have hl1 : decide ((i : Int) < (xs.length : Int)) = true := decide_eq_true (by omega)
        have hw1 : wrap64 ((i : Int) + 1) = ((i + 1 : Nat) : Int) := by rw [Aid.w64 (by omega) (by have := HM.out; omega)]; omega
        obtain ⟨ad, A2, c2, A3, c3, rfl, hx0, hx1, hx2, hx3, hl2, hr2, hl3, hr3⟩ := at_T26 HR.out (i : Int) (by omega) (by omega)
        obtain ⟨bd, B2, d2, B3, d3, rfl, hy0, hy1, hy2, hy3, hm2, hs2, hm3, hs3⟩ := at_T26 HS.out (i : Int) (by omega) (by omega)
        have hrd : rd_T26 xs (i : Int) = xs[i] := by simp [rd_T26, List.getD_eq_getElem?_getD, List.getElem?_eq_getElem hlt]
        have hsd : rd_T26 ys (i : Int) = ys[i] := by simp [rd_T26, List.getD_eq_getElem?_getD, List.getElem?_eq_getElem hlt2]
        have hbm := HI.out
        replace hx0 := (hbm.cell (World.block_lt_of_cell? _ _ hx0)).trans hx0
        replace hx1 := (hbm.cell (World.block_lt_of_cell? _ _ hx1)).trans hx1
        replace hx2 := (hbm.cell (World.block_lt_of_cell? _ _ hx2)).trans hx2
        replace hx3 := (hbm.cell (World.block_lt_of_cell? _ _ hx3)).trans hx3
        replace hy0 := (hbm.cell (World.block_lt_of_cell? _ _ hy0)).trans hy0
        replace hy1 := (hbm.cell (World.block_lt_of_cell? _ _ hy1)).trans hy1
        replace hy2 := (hbm.cell (World.block_lt_of_cell? _ _ hy2)).trans hy2
        replace hy3 := (hbm.cell (World.block_lt_of_cell? _ _ hy3)).trans hy3
        clear hbm
        rw [hrd] at hx0 hx1 hx2 hx3 hl2 hr2 hl3 hr3
        rw [hsd] at hy0 hy1 hy2 hy3 hm2 hs2 hm3 hs3
        simp only [Int.toNat_natCast] at hx0 hx1 hx2 hx3 hy0 hy1 hy2 hy3
        have HC := Aside0.mk (HP.out xs[i] (List.getElem_mem hlt) ys[i] (List.getElem_mem hlt2))
        have HX := Aside0.mk (show RowsT w xs[i] A2 c2 A3 c3 from ⟨⟨hl2, hr2⟩, hl3, hr3⟩)
        have HY := Aside0.mk (show RowsT w ys[i] B2 d2 B3 d3 from ⟨⟨hm2, hs2⟩, hm3, hs3⟩)
        have HT := Aside0.mk (show (xs[i] = ys[i] → xs.take (i + 1) = ys.take (i + 1)) ∧ (xs[i] ≠ ys[i] → xs ≠ ys) from by
          refine ⟨fun h => ?_, fun h e => h (by subst e; rfl)⟩
          rw [List.take_succ_eq_append_getElem hlt, List.take_succ_eq_append_getElem hlt2, HU.out, h])
        obtain ⟨x, hx⟩ : ∃ x, xs[i] = x := ⟨_, rfl⟩
        obtain ⟨y, hy⟩ : ∃ x, ys[i] = x := ⟨_, rfl⟩
        rw [hx] at hx0 hx1 hx2 hx3 HC HX HT
        rw [hy] at hy0 hy1 hy2 hy3 HC HY HT
        clear hx hy hrd hsd hl2 hr2 hl3 hr3 hm2 hs2 hm3 hs3
        have hy0_ := fun o => cell_al hy0 o
        have hy1_ := fun o => cell_al hy1 o
        have hy2_ := fun o => cell_al hy2 o
        have hy3_ := fun o => cell_al hy3 o
        have p1 : (0 : Int) ≤ (i : Int) := by omega
        have p2 : (i : Int) < (xs.length : Int) := by omega
        have p3 : (i : Int) < (ys.length : Int) := by omega
        by_cases hxy : x = y
        · have HC2 := Aside0.mk (HC.out.to (eqB_true hxy))
          have HT2 := Aside0.mk (HT.out.1 hxy)
          clear hxy hlt hlt2
          go_wp2_with (go_at_call 22; refine (HC2.out A2 c2 A3 c3 B2 d2 B3 d3 _ (HX.out.below (below_alloc (below_alloc HI.out _) _)) (HY.out.below (below_alloc (below_alloc HI.out _) _))).mono ?_; rintro e w' ⟨rfl, hv⟩; have HV := Aside0.mk (below_step (below_alloc (below_alloc HI.out _) _) hv); clear hv)
          go_roundg (xs.length - (i + 1))
          case measure => have := HG.out; omega
          case rel => exact ⟨i + 1, by first | rfl | rw [hw1], by omega, HV.out, HT2.out⟩
        · have HC2 := Aside0.mk (HC.out.to (eqB_false hxy))
          have HT2 := Aside0.mk (eqB_false (HT.out.2 hxy))
          clear hxy hlt hlt2
          go_wp2_with (go_at_call 22; refine (HC2.out A2 c2 A3 c3 B2 d2 B3 d3 _ (HX.out.below (below_alloc (below_alloc HI.out _) _)) (HY.out.below (below_alloc (below_alloc HI.out _) _))).mono ?_; rintro e w' ⟨rfl, hv⟩; have HV := Aside0.mk (below_step (below_alloc (below_alloc HI.out _) _) hv); clear hv)
          go_ret
          rw [HT2.out]
          exact ⟨rfl, HV.out⟩
      · have hl1 : decide ((i : Int) < (xs.length : Int)) = false := decide_eq_false (by omega)
        have HE := Aside0.mk (eqB_true (show xs = ys by
          have := HU.out
          rw [List.take_of_length_le (by omega), List.take_of_length_le (by have := HL.out; omega)] at this
          exact this))
        go_wp2
        go_ret
        rw [HE.out]
        exact ⟨rfl, HI.out⟩
  · have z1 : (xs.length == ys.length) = false := by simpa using hlen
    have z2 : (xs.length != ys.length) = true := by simpa using hlen
    have z3 : ((xs.length : Int) != (ys.length : Int)) = true := by simp; omega
    have HL := Aside0.mk (eqB_false (fun e : xs = ys => hlen (by rw [e])))
    clear hlen
    go_enter Try.func54, Try.ntmps54
    go_wp2
    go_ret
    rw [HL.out]
    exact ⟨rfl, Below.refl _ _⟩
theorem st_eq {x y : ST} : x = y ↔ x.f0 = y.f0 ∧ x.f1 = y.f1 ∧ x.f2 = y.f2 ∧ x.f3 = y.f3 := by
  obtain ⟨a, b, c, d⟩ := x
  obtain ⟨a2, b2, c2, d2⟩ := y
  simp
set_option maxHeartbeats 4000000 in
set_option maxRecDepth 100000 in
theorem same_n : ∀ (n : Nat) (x y : ST), SizeOf.sizeOf x < n → wfT x → wfT y → SameC x y := by
  intro n
  induction n with
  | zero => intro x y h; exact absurd h (by omega)
  | succ n ih =>
    intro x y hn hwx hwy A2 c2 A3 c3 B2 d2 B3 d3 w hx hy
    obtain ⟨_, hu1, hk1⟩ := (wfT_eq x).1 hwx
    obtain ⟨_, hu2, hk2⟩ := (wfT_eq y).1 hwy
    have HF := Aside0.mk (fun W (h1 : Kd.C k26 W A3 x.f3.length x.f3) (h2 : Kd.C k26 W B3 y.f3.length y.f3) => equalF x.f3 y.f3 A3 B3 c3 d3 W h1 h2 (fun a ha b hb => ih a b (by have := kid_lt ha; omega) (hk1 a ha) (hk2 b hb)))
    have HE := Aside0.mk (bytes_eq hu1 hu2)
    have HS := Aside0.mk (st_eq (x := x) (y := y))
    have HX := Aside0.mk hx
    have HY := Aside0.mk hy
    have HB := Aside0.mk (below_alloc (below_alloc (Below.refl w.heap.size w) (.cells #[.int .i64 x.f0, .int .u64 x.f1, .slice A2 x.f2.length c2, .slice A3 x.f3.length c3] 26)) (.cells #[.int .i64 y.f0, .int .u64 y.f1, .slice B2 y.f2.length d2, .slice B3 y.f3.length d3] 26))
    have H0 := Aside0.mk (show Blk ((w.alloc (.cells #[.int .i64 x.f0, .int .u64 x.f1, .slice A2 x.f2.length c2, .slice A3 x.f3.length c3] 26)).alloc (.cells #[.int .i64 y.f0, .int .u64 y.f1, .slice B2 y.f2.length d2, .slice B3 y.f3.length d3] 26)) w.heap.size 26 #[.int .i64 x.f0, .int .u64 x.f1, .slice A2 x.f2.length c2, .slice A3 x.f3.length c3] from blk1 _ _ _)
    have H1 := Aside0.mk (show Blk ((w.alloc (.cells #[.int .i64 x.f0, .int .u64 x.f1, .slice A2 x.f2.length c2, .slice A3 x.f3.length c3] 26)).alloc (.cells #[.int .i64 y.f0, .int .u64 y.f1, .slice B2 y.f2.length d2, .slice B3 y.f3.length d3] 26)) (w.heap.size + 1) 26 #[.int .i64 y.f0, .int .u64 y.f1, .slice B2 y.f2.length d2, .slice B3 y.f3.length d3] from blk2 _ _ _)
    obtain ⟨r, hr⟩ : ∃ r, eqB x y = r := ⟨_, rfl⟩
    rw [hr]
    have HV := Aside0.mk hr
    have hu26 := Try.underlying26
    clear hn hwx hwy ih hx hy hr hu1 hu2 hk1 hk2
    by_cases e0 : x.f0 = y.f0
    · have z0 : (x.f0 == y.f0) = true := by simpa using e0
      by_cases e1 : x.f1 = y.f1
      · have z1 : (x.f1 == y.f1) = true := by simpa using e1
        by_cases e2 : x.f2 = y.f2
        · have HE2 := Aside0.mk (HE.out.trans (congrArg some (eqB_true e2)))
          have HR := Aside0.mk (show eqB x.f3 y.f3 = r from by
            rw [← HV.out]
            by_cases e3 : x.f3 = y.f3
            · rw [eqB_true e3, eqB_true (HS.out.2 ⟨e0, e1, e2, e3⟩)]
            · rw [eqB_false e3, eqB_false (fun h => e3 (HS.out.1 h).2.2.2)])
          clear e0 e1 e2
          go_enter Try.func22, Try.ntmps22
          go_wp2_with (first
            | (go_at_call 53; refine (bytes_Equal.calls A2 c2 x.f2 B2 d2 y.f2 true _ (Kd.C_below HX.out.1.2 HB.out) HX.out.1.1 (Kd.C_below HY.out.1.2 HB.out) HY.out.1.1 HE2.out).mono ?_; rintro e w1 ⟨rfl, hd⟩; have HB1 := Aside0.mk (below_step HB.out hd.below); have q0 := (H0.out.below hd.below).cell 3; have q1 := (H1.out.below hd.below).cell 3; simp only [List.getElem?_toArray, List.getElem?_cons_zero, List.getElem?_cons_succ] at q0 q1; clear hd)
            | (go_at_call 54; refine (HF.out _ (Kd.C_below HX.out.2.2 HB1.out) (Kd.C_below HY.out.2.2 HB1.out)).mono ?_; rintro e w2 ⟨rfl, hb⟩; rw [HR.out]; have HB2 := Aside0.mk (below_step HB1.out hb); clear hb))
          go_ret
          exact ⟨rfl, HB2.out⟩
        · have HE2 := Aside0.mk (HE.out.trans (congrArg some (eqB_false e2)))
          have HR := Aside0.mk (show r = false by rw [← HV.out]; exact eqB_false (fun h => e2 (HS.out.1 h).2.2.1))
          clear e0 e1 e2
          go_enter Try.func22, Try.ntmps22
          go_wp2_with (go_at_call 53; refine (bytes_Equal.calls A2 c2 x.f2 B2 d2 y.f2 false _ (Kd.C_below HX.out.1.2 HB.out) HX.out.1.1 (Kd.C_below HY.out.1.2 HB.out) HY.out.1.1 HE2.out).mono ?_; rintro e w1 ⟨rfl, hd⟩; have HB1 := Aside0.mk (below_step HB.out hd.below); have q0 := (H0.out.below hd.below).cell 3; have q1 := (H1.out.below hd.below).cell 3; simp only [List.getElem?_toArray, List.getElem?_cons_zero, List.getElem?_cons_succ] at q0 q1; clear hd)
          go_ret
          rw [HR.out]
          exact ⟨rfl, HB1.out⟩
      · have z1 : (x.f1 == y.f1) = false := by simpa using e1
        have HR := Aside0.mk (show r = false by rw [← HV.out]; exact eqB_false (fun h => e1 (HS.out.1 h).2.1))
        clear e0 e1
        go_enter Try.func22, Try.ntmps22
        go_wp2_with (fail)
        go_ret
        rw [HR.out]
        exact ⟨rfl, HB.out⟩
    · have z0 : (x.f0 == y.f0) = false := by simpa using e0
      have HR := Aside0.mk (show r = false by rw [← HV.out]; exact eqB_false (fun h => e0 (HS.out.1 h).1))
      clear e0
      go_enter Try.func22, Try.ntmps22
      go_wp2_with (fail)
      go_ret
      rw [HR.out]
      exact ⟨rfl, HB.out⟩
end Go.Proofs.Ytgohmganimamcaa.Term
/- term.shapeOf walked: what a kind has. -/
namespace Go.Proofs.Ytgohmganimamcaa.Term
set_option linter.unusedVariables false
set_option linter.unusedSimpArgs false
open Go.RowKit Go.Proofs.Ytgohmganimamcaa.Base Go.Proofs.Ytgohmganimamcaa.TlvPlain Go.Proofs.Ytgohmganimamcaa.Aid Go.Proofs.YtgohmganimamcaaW.PrintWords Go.Proofs.YtgohmganimamcaaW.PrintLast Go.Proofs.YtgohmganimamcaaW.PrintMore
theorem info_tab : (Try.prog.info? 88).map (·.size) = some 28 := by kernel_rfl
def tab : Array Value := #[.bool false, .bool false, .bool false, .int .i64 0, .bool true, .bool true, .bool false, .int .i64 0, .bool true, .bool true, .bool false, .int .i64 0, .bool true, .bool false, .bool true, .int .i64 0, .bool true, .bool false, .bool false, .int .i64 2, .bool true, .bool true, .bool false, .int .i64 2, .bool true, .bool false, .bool false, .int .i64 1]
abbrev shapeV (k : Int) : Value := .agg #[.bool (thereB k), .bool (numT k), .bool (datT k), .int .i64 (kidT k : Int)]
theorem tab_at (k : Nat) (h : k < 7) : tab[k * 4]? = some (.bool (thereB k)) ∧ tab[k * 4 + 1]? = some (.bool (numT k)) ∧ tab[k * 4 + 2]? = some (.bool (datT k)) ∧ tab[k * 4 + 3]? = some (.int .i64 (kidT k : Int)) := by
  have : k = 0 ∨ k = 1 ∨ k = 2 ∨ k = 3 ∨ k = 4 ∨ k = 5 ∨ k = 6 := by omega
  rcases this with rfl | rfl | rfl | rfl | rfl | rfl | rfl <;> exact ⟨rfl, rfl, rfl, rfl⟩
theorem shape_out {k : Int} (h : k < 0 ∨ 7 ≤ k) : shapeV k = .agg #[.bool false, .bool false, .bool false, .int .i64 0] := by
  have e1 : thereB k = false := decide_eq_false (by omega)
  have e2 : numT k = false := decide_eq_false (by omega)
  have e3 : datT k = false := decide_eq_false (by omega)
  have e4 : kidT k = 0 := by unfold kidT; rw [if_neg (by omega), if_neg (by omega)]
  rw [shapeV, e1, e2, e3, e4]
  rfl
theorem second_new' (w : World) (Z o : Obj) : ((w.alloc Z).alloc o).heap[w.heap.size + 1]? = some o := by
  have := blk_new (w.alloc Z) o
  simpa using this
theorem setRow_alloc2 (w : World) (a : Obj) (c c' : Array Value) (t : TypeId) : ((w.alloc a).alloc (.cells c t)).setRow (w.heap.size + 1) c' = (w.alloc a).alloc (.cells c' t) := by
  have h := World.setRow_alloc_new (w.alloc a) c c' t
  simpa using h
def BlkS (w : World) (g T : Nat) (cs : Array Value) : Prop := w.heap[g]? = some (.cells cs T (0, 0))
theorem shape_set {w : World} {g T : Nat} {a b c d : Value} (h : BlkS w g T #[a, b, c, d]) (a' b' c' d' : Value) : BlkS ((((w.setCell ⟨g, 0, none⟩ a').setCell ⟨g, 1, none⟩ b').setCell ⟨g, 2, none⟩ c').setCell ⟨g, 3, none⟩ d') g T #[a', b', c', d'] := by
  have h4 := blk_set (blk_set (blk_set (blk_set h 0 a') 1 b') 2 c') 3 d'
  simpa [BlkS] using h4
theorem shape_below {w W : World} (h : Below w.heap.size w W) (a' b' c' d' : Value) : Below w.heap.size w ((((W.setCell ⟨w.heap.size, 0, none⟩ a').setCell ⟨w.heap.size, 1, none⟩ b').setCell ⟨w.heap.size, 2, none⟩ c').setCell ⟨w.heap.size, 3, none⟩ d') :=
  below_set (below_set (below_set (below_set h (Nat.le_refl _)) (Nat.le_refl _)) (Nat.le_refl _)) (Nat.le_refl _)
set_option maxHeartbeats 4000000 in
set_option maxRecDepth 100000 in
theorem shape_c (k : Int) (w : World) : Calls Try.prog 43 #[.int .i64 k] w fun e w' => e = .returned (shapeV k) ∧ Below w.heap.size w w' := by
  obtain ⟨D, hD⟩ : ∃ D, tab = D := ⟨_, rfl⟩
  have hds : D.size = 28 := by rw [← hD]; rfl
  have HI := Aside0.mk (show (Try.prog.info? 88).map (·.size) = some D.size by rw [hds]; exact info_tab)
  have HONE := Aside0.mk (show D.all (·.oneCell') = true by rw [← hD]; simp [tab, Value.oneCell'])
  have HS := Aside0.mk (show (28 : Nat) = D.size from hds.symm)
  have HD := Aside0.mk hD
  have hu69 := Try.underlying69
  have hu88 := Try.underlying88
  have HT := Aside0.mk tab_at
  rw [hD] at HT
  clear hD hds
  go_enter Try.func43, Try.ntmps43
  go_upto_region 2 with ((with_reducible refine gate_store (t := 88) (p := 3) (v := .tmp 10) rfl ?_); (refine wpList_store_row rfl 88 (.tmp 3) (.tmp 10) rfl (w.heap.size + 1) D rfl (by rw [← HD.out]; rfl) 88 _ (by exact second_new' _ _ _) HI.out (by exact HS.out) HONE.out ?_); rw [setRow_alloc2])
  obtain ⟨W, hW⟩ : ∃ W, (w.alloc (.cells #[.bool false, .bool false, .bool false, .int .i64 0] 69)).alloc (.cells D 88) = W := ⟨_, rfl⟩
  have h3 : BlkS W (w.heap.size + 1) 88 D := by rw [← hW]; exact second_new' _ _ _
  have h2 : BlkS W w.heap.size 69 #[.bool false, .bool false, .bool false, .int .i64 0] := by rw [← hW]; exact blk_alloc (blk_new _ _) _
  have hb : Below w.heap.size w W := by rw [← hW]; exact below_alloc (below_alloc (Below.refl _ _) _) _
  rw [hW]
  have H2 := Aside0.mk h2
  have HB := Aside0.mk hb
  have x0 := blk_cell h2 0; have x1 := blk_cell h2 1; have x2 := blk_cell h2 2; have x3 := blk_cell h2 3
  have y0 := blk_frozen h2 0; have y1 := blk_frozen h2 1; have y2 := blk_frozen h2 2; have y3 := blk_frozen h2 3
  clear hW h2 hb HI HONE HS HD
  by_cases c0 : k < 0
  · have d0 : decide (k < 0) = true := decide_eq_true c0
    have HE := Aside0.mk (shape_out (.inl c0))
    clear c0 h3 HT
    dsimp only [Act.put]
    go_wp2_with (fail)
    refine bodyPost_ret (results_cell_row rfl _ _ w.heap.size 69 #[.bool false, .bool false, .bool false, .int .i64 0] (0, 0) _ rfl (shape_set H2.out _ _ _ _) Try.underlying69 rfl (by kernel_rfl)) rfl ⟨by rw [HE.out], shape_below HB.out _ _ _ _⟩
  by_cases c1 : 7 ≤ k
  · have d0 : decide (k < 0) = false := decide_eq_false c0
    have d1 : decide (7 ≤ k) = true := decide_eq_true c1
    have HE := Aside0.mk (shape_out (.inr c1))
    clear c0 c1 h3 HT
    dsimp only [Act.put]
    go_wp2_with (fail)
    refine bodyPost_ret (results_cell_row rfl _ _ w.heap.size 69 #[.bool false, .bool false, .bool false, .int .i64 0] (0, 0) _ rfl (shape_set H2.out _ _ _ _) Try.underlying69 rfl (by kernel_rfl)) rfl ⟨by rw [HE.out], shape_below HB.out _ _ _ _⟩
  obtain ⟨n, rfl⟩ := Int.eq_ofNat_of_zero_le (show (0 : Int) ≤ k by omega)
  have d0 : decide ((n : Int) < 0) = false := decide_eq_false c0
  have d1 : decide (7 ≤ (n : Int)) = false := decide_eq_false c1
  have d2 : n < 7 := by omega
  have p0 : (0 : Int) ≤ (n : Int) := by omega
  have p1 : (n : Int) < 7 := by omega
  obtain ⟨t0, t1, t2, t3⟩ := HT.out n d2
  have z0 := (blk_cell h3 (n * 4)).trans t0
  have z1 := (blk_cell h3 (n * 4 + 1)).trans t1
  have z2 := (blk_cell h3 (n * 4 + 2)).trans t2
  have z3 := (blk_cell h3 (n * 4 + 3)).trans t3
  clear h3 t0 t1 t2 t3 HT c0 c1
  dsimp only [Act.put]
  go_wp2_with (fail)
  refine bodyPost_ret (results_cell_row rfl _ _ w.heap.size 69 #[.bool (thereB n), .bool (numT n), .bool (datT n), .int .i64 (kidT n : Int)] (0, 0) _ rfl (shape_set H2.out _ _ _ _) Try.underlying69 rfl (by kernel_rfl)) rfl ⟨rfl, shape_below HB.out _ _ _ _⟩
end Go.Proofs.Ytgohmganimamcaa.Term
/- The lowest functions, each with what it answers. -/
namespace Go.Proofs.Ytgohmganimamcaa.Lo
open Go.Proofs.Ytgohmganimamcaa.Base Go.Proofs.Ytgohmganimamcaa.TlvPlain Go.Proofs.Ytgohmganimamcaa.Aid Go.RowKit Go.Proofs.YtgohmganimamcaaW.PrintWords Go.Proofs.YtgohmganimamcaaW.PrintLast Go.Proofs.YtgohmganimamcaaW.PrintMore Go.Proofs.Ytgohmganimamcaa.PZ

/-- New bytes. -/
def Makes (w : World) (bs : List Int) (e : Ending) (w' : World) : Prop := ∃ v : Value, e = .returned v ∧ Ob w' w.heap.size v bs ∧ Below w.heap.size w w'
theorem same_c (A0 : Option Addr) (c0 : Nat) (a : List Int) (A1 : Option Addr) (c1 : Nat) (b : List Int) (w : World) (h0 : Rb w A0 a) (hc0 : a.length ≤ c0) (h1 : Rb w A1 b) (hc1 : b.length ≤ c1) (hn : a.length ≤ 4611686018427387904) :
    Calls Try.prog 14 #[.slice A0 a.length c0, .slice A1 b.length c1] w fun e w' => e = .returned (.bool (decide (a = b))) ∧ Drawn0 w w' := by
  obtain ⟨k, h⟩ := (same_ev a b hn).rounds
  exact hanaperref01_Same.calls k A0 c0 a A1 c1 b _ w h0 hc0 h1 hc1 h
theorem same_n (A0 : Option Addr) (c0 n0 : Nat) (a : List Int) (A1 : Option Addr) (c1 n1 : Nat) (b : List Int) (w : World) (h0 : Rb w A0 a) (e0 : a.length = n0) (hc0 : n0 ≤ c0) (h1 : Rb w A1 b) (e1 : b.length = n1) (hc1 : n1 ≤ c1) (hn : n0 ≤ 4611686018427387904) :
    Calls Try.prog 14 #[.slice A0 n0 c0, .slice A1 n1 c1] w fun e w' => e = .returned (.bool (decide (a = b))) ∧ Drawn0 w w' := by
  subst e0; subst e1
  exact same_c A0 c0 a A1 c1 b w h0 hc0 h1 hc1 hn
theorem num_c (n : Int) (w : World) (h0 : 0 ≤ n) (h1 : n ≤ 18446744073709551615) : Calls Try.prog 44 #[.int .u64 n] w (Makes w (numB n)) := by
  obtain ⟨k, h⟩ := (num_ev n h0 h1).rounds
  exact tlv_Num.calls k n _ w h
theorem text_c (A0 : Option Addr) (c0 : Nat) (l : List Int) (w : World) (hr : Rb w A0 l) (hc : l.length ≤ c0) (hl : l.length < 140737488355000) : Calls Try.prog 45 #[.slice A0 l.length c0] w (Makes w (textB l)) := by
  obtain ⟨k, h⟩ := (text_ev l hl).rounds
  exact tlv_Text.calls k A0 c0 l _ w hr hc h
end Go.Proofs.Ytgohmganimamcaa.Lo
/- term.Put's visitor walked: a term's head. -/
namespace Go.Proofs.Ytgohmganimamcaa.Term
set_option linter.unusedVariables false
set_option linter.unusedSimpArgs false
open Go.RowKit Go.Proofs.Ytgohmganimamcaa.Base Go.Proofs.Ytgohmganimamcaa.TlvPlain Go.Proofs.Ytgohmganimamcaa.Lo Go.Proofs.Ytgohmganimamcaa.RdPlain Go.Proofs.Ytgohmganimamcaa.Aid Go.Proofs.Ytgohmganimamcaa.PZ Go.Proofs.YtgohmganimamcaaW.PrintWords Go.Proofs.YtgohmganimamcaaW.PrintLast Go.Proofs.YtgohmganimamcaaW.PrintMore
theorem Blk.other {w : World} {g T g' j : Nat} {cs : Array Value} {v : Value} (h : Blk w g T cs) (hne : g ≠ g') : Blk (w.setCell ⟨g', j, none⟩ v) g T cs := blk_far h (by dsimp only; omega) _
/-- The bytes that were put so far, in their variable. -/
def InvP (v0 : World) (g : Nat) (W : World) (bs : List Int) : Prop := v0.heap.size ≤ g ∧ Below v0.heap.size v0 W ∧ ∃ v, Blk W g 23 #[v] ∧ Ob W v0.heap.size v bs
theorem InvP.below {v0 W W' : World} {g : Nat} {bs : List Int} (h : InvP v0 g W bs) (hb : Below W.heap.size W W') : InvP v0 g W' bs := by
  obtain ⟨h0, h1, v, h2, h3⟩ := h
  exact ⟨h0, below_step h1 hb, v, h2.below hb, Kd.R_below h3 hb⟩
/-- All blocks but one, and but rows of bytes, stand. -/
def KeepT (g : Nat) (W W' : World) : Prop := ∀ k T cs, k ≠ g → T ≠ 5 → Blk W k T cs → Blk W' k T cs
theorem KeepT.below {g : Nat} {W W' : World} (h : Below W.heap.size W W') : KeepT g W W' := fun k T cs _ _ hk => hk.below h
theorem KeepT.trans {g : Nat} {a b c : World} (h : KeepT g a b) (k : KeepT g b c) : KeepT g a c := fun i T cs h1 h2 hi => k i T cs h1 h2 (h i T cs h1 h2 hi)
theorem KeepT.step {g : Nat} {a b c : World} (h : KeepT g a b) (k : Below b.heap.size b c) : KeepT g a c := h.trans (KeepT.below k)
theorem KeepT.grown {g : Nat} {a b c : World} {base : Nat} {v : Value} {bs : List Int} (h : KeepT g a b) (ho : Ob b base v bs) (hg : b.grownBy c v.ownBlock) : KeepT g a c :=
  h.trans (fun k T cs _ h2 hk => blk_grown hk hg (Kd.R_ne ho hk (fun e => h2 e.symm)))
theorem KeepT.set {g j : Nat} {a b : World} {v : Value} (h : KeepT g a b) : KeepT g a (b.setCell ⟨g, j, none⟩ v) := h.trans (fun k T cs h1 _ hk => blk_far hk (by dsimp only; omega) _)
theorem inv_set {v0 W : World} {g : Nat} {v v' : Value} {bs : List Int} (hg : v0.heap.size ≤ g) (hB : Below v0.heap.size v0 W) (h : Blk W g 23 #[v]) (ho : Ob W v0.heap.size v' bs) : InvP v0 g (W.setCell ⟨g, 0, none⟩ v') bs :=
  ⟨hg, below_set hB hg, v', by have h2 := blk_set h 0 v'; simpa [Blk] using h2, Kd.R_set ho h (by decide) 0 _⟩
theorem num_dat {k : Int} (h : numT k = true) : datT k = false := by
  unfold numT at h
  unfold datT
  simp only [decide_eq_true_eq] at h
  exact decide_eq_false (by omega)
theorem size_alloc (w : World) (o : Obj) : (w.alloc o).heap.size = w.heap.size + 1 := by simp
set_option maxHeartbeats 4000000 in
set_option maxRecDepth 100000 in
theorem visit_c (v0 : World) (g5 : Nat) (x : ST) (A2 : Option Addr) (c2 : Nat) (A3 : Option Addr) (c3 : Nat) (W : World) (bs : List Int) (hI : InvP v0 g5 W bs) (hx : RowsT v0 x A2 c2 A3 c3) (hn : 0 ≤ x.f1 ∧ x.f1 ≤ 18446744073709551615) (hd : x.f2.length ≤ 100) (hl : bs.length ≤ 1000000) :
    Calls Try.prog 42 #[.agg #[.int .i64 x.f0, .int .u64 x.f1, .slice A2 x.f2.length c2, .slice A3 x.f3.length c3], .pointer (some ⟨g5, 0, none⟩)] W fun e w' => e = .returned (.tuple #[]) ∧ InvP v0 g5 w' (bs ++ ((x.f0 % 256) :: headT x)) ∧ KeepT g5 W w' := by
  obtain ⟨hg5, hB, v, h5, hO⟩ := hI
  have HG := Aside0.mk hg5
  have HGL := Aside0.mk h5.lt
  have HL := Aside0.mk hl
  have HX := Aside0.mk hx
  have HN := Aside0.mk hn
  have HD := Aside0.mk hd
  have hsh := shape_c x.f0
  simp only [shapeV] at hsh
  have HSH := Aside0.mk hsh
  clear hsh
  have hb0 := below_alloc (Below.refl W.heap.size W) (.cells #[.int .i64 x.f0, .int .u64 x.f1, .slice A2 x.f2.length c2, .slice A3 x.f3.length c3] 26)
  have HB := Aside0.mk (below_step hB hb0)
  have HK := Aside0.mk (KeepT.below (g := g5) hb0)
  have H5 := Aside0.mk (h5.below hb0)
  have HO := Aside0.mk (Kd.R_below hO hb0)
  have HX0 := Aside0.mk (show Blk (W.alloc (.cells #[.int .i64 x.f0, .int .u64 x.f1, .slice A2 x.f2.length c2, .slice A3 x.f3.length c3] 26)) W.heap.size 26 #[.int .i64 x.f0, .int .u64 x.f1, .slice A2 x.f2.length c2, .slice A3 x.f3.length c3] from blk_new _ _)
  have hu26 := Try.underlying26
  have hu69 := Try.underlying69
  have hu23 := Try.underlying23
  have HH := Aside0.mk (show headT x = (if numT x.f0 = true then numB x.f1 else []) ++ (if datT x.f0 = true then textB x.f2 else []) from rfl)
  obtain ⟨hh, hhe⟩ : ∃ h, headT x = h := ⟨_, rfl⟩
  rw [hhe] at HH ⊢
  clear hg5 hB h5 hO hl hx hn hd hb0 hhe
  cases hnum : numT x.f0 with
  | true =>
    have hdat := num_dat hnum
    rw [hnum, hdat] at HSH
    rw [hnum, hdat, if_pos rfl, if_neg (by decide), List.append_nil] at HH
    clear hnum hdat
    go_enter Try.func42, Try.ntmps42
    go_wp2_with (fail)
    refine (HSH.out _).mono ?_
    rintro e w1 ⟨rfl, hb⟩
    have H51 := Aside0.mk (H5.out.below hb)
    have HO1 := Aside0.mk (Kd.R_below HO.out hb)
    have HX1 := Aside0.mk (HX0.out.below hb)
    have HB1 := Aside0.mk (below_step HB.out hb)
    have HK1 := Aside0.mk (HK.out.step hb)
    have q5 := fun o => ((H51.out.alloc o).cell 0)
    have qx := fun o => ((HX1.out.alloc o).cell 0)
    simp only [List.getElem?_toArray, List.getElem?_cons_zero, List.getElem?_cons_succ] at q5 qx
    clear hb H5 HO HX0 HB HSH
    have HXL := Aside0.mk (show g5 < W.heap.size ∧ W.heap.size < w1.heap.size from ⟨HGL.out, HX1.out.lt⟩)
    have HS1 := Aside0.mk (show Blk (w1.alloc (.cells #[.bool (thereB x.f0), .bool true, .bool false, .int .i64 (kidT x.f0 : Int)] 69)) w1.heap.size 69 #[.bool (thereB x.f0), .bool true, .bool false, .int .i64 (kidT x.f0 : Int)] from blk_new _ _)
    have HOa := Aside0.mk (show Ob (w1.alloc (.cells #[.bool (thereB x.f0), .bool true, .bool false, .int .i64 (kidT x.f0 : Int)] 69)) v0.heap.size v bs from Kd.R_below HO1.out (below_alloc (Below.refl _ _) _))
    have H5a := Aside0.mk (show Blk (w1.alloc (.cells #[.bool (thereB x.f0), .bool true, .bool false, .int .i64 (kidT x.f0 : Int)] 69)) g5 23 #[v] from H51.out.alloc _)
    have HXa := Aside0.mk (show Blk (w1.alloc (.cells #[.bool (thereB x.f0), .bool true, .bool false, .int .i64 (kidT x.f0 : Int)] 69)) W.heap.size 26 #[.int .i64 x.f0, .int .u64 x.f1, .slice A2 x.f2.length c2, .slice A3 x.f3.length c3] from HX1.out.alloc _)
    have HBa := Aside0.mk (show Below v0.heap.size v0 (w1.alloc (.cells #[.bool (thereB x.f0), .bool true, .bool false, .int .i64 (kidT x.f0 : Int)] 69)) from below_alloc HB1.out _)
    have HKa := Aside0.mk (HK1.out.step (below_alloc (Below.refl _ _) (.cells #[.bool (thereB x.f0), .bool true, .bool false, .int .i64 (kidT x.f0 : Int)] 69)))
    go_upto_region 4 with ((with_reducible refine gate_builtin (b := .append) (xs := #[.tmp 7, .tmp 11]) rfl ?_); go_must (at_builtin; refine Kd.R_append (Kd.int .u8) (w0 := v0) v0.heap.size rfl (.tmp 7) (.tmp 11) 23 5 (.int .u8 0) 1 rfl Try.underlying23 info_u8 rfl (by decide) (by omega) v bs (x.f0 % 256) [.int .u8 (x.f0 % 256)] (fun _ => True) (fun _ => False) rfl (by rw [size_alloc]; rfl) rfl (fun _ h => h.elim) (fun _ _ => trivial) HOa.out HBa.out HBa.out.size (by have := HL.out; omega) ?_; intro v1 w2 ho hb hg hat; obtain ⟨bs1, hbs1⟩ : ∃ b, bs ++ [x.f0 % 256] = b := ⟨_, rfl⟩; rw [hbs1] at ho; have HBS := Aside0.mk hbs1; clear hbs1; obtain ⟨A9, c9, rfl⟩ := Kd.R_slice ho; have hne := Kd.R_ne HOa.out H5a.out (by decide); have hnx := Kd.R_ne HOa.out HXa.out (by decide); have hns := Kd.R_ne HOa.out HS1.out (by decide); have H52 := Aside0.mk (show Blk w2 g5 23 #[v] from blk_grown H5a.out hg hne); have HX2 := Aside0.mk (show Blk w2 W.heap.size 26 #[.int .i64 x.f0, .int .u64 x.f1, .slice A2 x.f2.length c2, .slice A3 x.f3.length c3] from blk_grown HXa.out hg hnx); have HS2 := Aside0.mk (show Blk w2 w1.heap.size 69 #[.bool (thereB x.f0), .bool true, .bool false, .int .i64 (kidT x.f0 : Int)] from blk_grown HS1.out hg hns); have HO2 := Aside0.mk ho; have HB2 := Aside0.mk hb; have HK2 := Aside0.mk (HKa.out.grown HOa.out hg); have y5 := blk_frozen H52.out 0; have p5 := H52.out.cell 0; have s1 := HS2.out.cell 1; simp only [List.getElem?_toArray, List.getElem?_cons_zero, List.getElem?_cons_succ] at p5 s1; clear hne hnx hns ho hb hg hat))
    obtain ⟨W3, hW3⟩ : ∃ w', w2.setCell ⟨g5, 0, none⟩ (.slice A9 bs1.length c9) = w' := ⟨_, rfl⟩
    have hlt : g5 < W.heap.size := HXL.out.1
    have H53 := Aside0.mk (show Blk W3 g5 23 #[.slice A9 bs1.length c9] by rw [← hW3]; have h := blk_set H52.out 0 (.slice A9 bs1.length c9); simpa [Blk] using h)
    have HO3 := Aside0.mk (show Ob W3 v0.heap.size (.slice A9 bs1.length c9) bs1 by rw [← hW3]; exact Kd.R_set HO2.out H52.out (by decide) 0 _)
    have HX3 := Aside0.mk (show Blk W3 W.heap.size 26 #[.int .i64 x.f0, .int .u64 x.f1, .slice A2 x.f2.length c2, .slice A3 x.f3.length c3] by rw [← hW3]; exact blk_far HX2.out (by dsimp only; omega) _)
    have HS3 := Aside0.mk (show Blk W3 w1.heap.size 69 #[.bool (thereB x.f0), .bool true, .bool false, .int .i64 (kidT x.f0 : Int)] by rw [← hW3]; exact blk_far HS2.out (by have := HXL.out; dsimp only; omega) _)
    have HB3 := Aside0.mk (show Below v0.heap.size v0 W3 by rw [← hW3]; exact below_set HB2.out HG.out)
    have HK3 := Aside0.mk (show KeepT g5 W W3 by rw [← hW3]; exact HK2.out.set)
    rw [hW3]
    clear hW3 H52 HO2 HX2 HS2 HB2 H51 HO1 HX1 HB1 HS1 HOa H5a HXa HBa q5 qx y5 p5 s1 hlt
    have HL1 := Aside0.mk (show bs1.length ≤ 1000001 by rw [← HBS.out]; simp; exact HL.out)
    go_cut [] (fun wx => InvP v0 g5 wx (bs1 ++ numB x.f1) ∧ Blk wx w1.heap.size 69 #[.bool (thereB x.f0), .bool true, .bool false, .int .i64 (kidT x.f0 : Int)] ∧ KeepT g5 W wx)
    case first =>
      have q5 := H53.out.cell 0
      have qx := HX3.out.cell 1
      simp only [List.getElem?_toArray, List.getElem?_cons_zero, List.getElem?_cons_succ] at q5 qx
      have H53d := Aside0.mk (H53.out.below (below_drew1 (Below.refl W3.heap.size W3)))
      have HO3d := Aside0.mk (Kd.R_drew HO3.out)
      have HX3d := Aside0.mk (HX3.out.below (below_drew1 (Below.refl W3.heap.size W3)))
      have HS3d := Aside0.mk (HS3.out.below (below_drew1 (Below.refl W3.heap.size W3)))
      have HB3d := Aside0.mk (below_drew1 HB3.out)
      have HK3d := Aside0.mk (HK3.out.step (below_drew1 (Below.refl _ _)))
      have HLN := Aside0.mk (numB_len HN.out.2)
      go_region_law (first
        | (go_simp; go_at_call 44; refine (num_c x.f1 _ HN.out.1 HN.out.2).mono ?_; rintro e w4 ⟨v4, rfl, ho, hb⟩; have H54 := Aside0.mk (H53d.out.below hb); have HO4 := Aside0.mk (Kd.R_below HO3d.out hb); have HS4 := Aside0.mk (HS3d.out.below hb); have HB4 := Aside0.mk (below_step HB3d.out hb); have HK4 := Aside0.mk (HK3d.out.step hb); have q54 := H54.out.cell 0; simp only [List.getElem?_toArray, List.getElem?_cons_zero, List.getElem?_cons_succ] at q54; obtain ⟨A4, c4, rfl, hl4, hr4⟩ := Ob.reads ho; have HR4 := Aside0.mk hr4; clear hb ho hl4 hr4)
        | (refine Kd.R_append_rows_step (Kd.int .u8) (w0 := v0) v0.heap.size rfl (.tmp 15) (.tmp 18) 23 5 (.int .u8 0) 1 rfl Try.underlying23 info_u8 rfl (by decide) (by omega) (.slice A9 bs1.length c9) bs1 (numB x.f1) _ _ _ (fun _ => True) (fun _ => False) rfl rfl HO4.out HR4.out (fun _ _ h => h) (fun _ h => h.elim) (fun _ _ => trivial) HB4.out HB4.out.size (by have := HL1.out; have := HLN.out; omega) ?_; intro v5 w5 ho hb hg hat; have hne := Kd.R_ne HO4.out H54.out (by decide); have hns := Kd.R_ne HO4.out HS4.out (by decide); have H55 := Aside0.mk (show Blk w5 g5 23 #[.slice A9 bs1.length c9] from blk_grown H54.out hg hne); have HS5 := Aside0.mk (show Blk w5 w1.heap.size 69 #[.bool (thereB x.f0), .bool true, .bool false, .int .i64 (kidT x.f0 : Int)] from blk_grown HS4.out hg hns); have HO5 := Aside0.mk ho; have HB5 := Aside0.mk hb; have HK5 := Aside0.mk (HK4.out.grown HO4.out hg); have y5 := blk_frozen H55.out 0; have p5 := H55.out.cell 0; simp only [List.getElem?_toArray, List.getElem?_cons_zero, List.getElem?_cons_succ] at p5; obtain ⟨A6, c6, rfl⟩ := Kd.R_slice ho; clear hne hns ho hb hg hat))
      all_goals
        go_wp2_with (fail)
        go_meet
        case rel =>
          have h := inv_set HG.out HB5.out H55.out HO5.out
          rw [List.length_append] at h
          exact ⟨h, HS5.out.other (by have := HXL.out; omega), HK5.out.set⟩
    case rest =>
      obtain ⟨hi, hs, hk⟩ := hcut
      have HKc := Aside0.mk hk
      have HI := Aside0.mk hi
      have s2 := hs.cell 2
      simp only [List.getElem?_toArray, List.getElem?_cons_zero, List.getElem?_cons_succ] at s2
      clear hi hs hk
      go_wp2_with (fail)
      go_end0
      have h := HI.out
      rw [← HBS.out, ← HH.out, List.append_assoc] at h
      exact ⟨rfl, h, HKc.out⟩
  | false =>
    rw [hnum] at HSH
    rw [hnum, if_neg (by decide), List.nil_append] at HH
    clear hnum
    cases hdat : datT x.f0 with
    | true =>
      rw [hdat] at HSH
      rw [hdat, if_pos rfl] at HH
      clear hdat
      go_enter Try.func42, Try.ntmps42
      go_wp2_with (fail)
      refine (HSH.out _).mono ?_
      rintro e w1 ⟨rfl, hb⟩
      have H51 := Aside0.mk (H5.out.below hb)
      have HO1 := Aside0.mk (Kd.R_below HO.out hb)
      have HX1 := Aside0.mk (HX0.out.below hb)
      have HB1 := Aside0.mk (below_step HB.out hb)
      have HK1 := Aside0.mk (HK.out.step hb)
      have q5 := fun o => ((H51.out.alloc o).cell 0)
      have qx := fun o => ((HX1.out.alloc o).cell 0)
      simp only [List.getElem?_toArray, List.getElem?_cons_zero, List.getElem?_cons_succ] at q5 qx
      clear hb H5 HO HX0 HB HSH
      have HXL := Aside0.mk (show g5 < W.heap.size ∧ W.heap.size < w1.heap.size from ⟨HGL.out, HX1.out.lt⟩)
      have HS1 := Aside0.mk (show Blk (w1.alloc (.cells #[.bool (thereB x.f0), .bool false, .bool true, .int .i64 (kidT x.f0 : Int)] 69)) w1.heap.size 69 #[.bool (thereB x.f0), .bool false, .bool true, .int .i64 (kidT x.f0 : Int)] from blk_new _ _)
      have HOa := Aside0.mk (show Ob (w1.alloc (.cells #[.bool (thereB x.f0), .bool false, .bool true, .int .i64 (kidT x.f0 : Int)] 69)) v0.heap.size v bs from Kd.R_below HO1.out (below_alloc (Below.refl _ _) _))
      have H5a := Aside0.mk (show Blk (w1.alloc (.cells #[.bool (thereB x.f0), .bool false, .bool true, .int .i64 (kidT x.f0 : Int)] 69)) g5 23 #[v] from H51.out.alloc _)
      have HXa := Aside0.mk (show Blk (w1.alloc (.cells #[.bool (thereB x.f0), .bool false, .bool true, .int .i64 (kidT x.f0 : Int)] 69)) W.heap.size 26 #[.int .i64 x.f0, .int .u64 x.f1, .slice A2 x.f2.length c2, .slice A3 x.f3.length c3] from HX1.out.alloc _)
      have HBa := Aside0.mk (show Below v0.heap.size v0 (w1.alloc (.cells #[.bool (thereB x.f0), .bool false, .bool true, .int .i64 (kidT x.f0 : Int)] 69)) from below_alloc HB1.out _)
      have HKa := Aside0.mk (HK1.out.step (below_alloc (Below.refl _ _) (.cells #[.bool (thereB x.f0), .bool false, .bool true, .int .i64 (kidT x.f0 : Int)] 69)))
      go_upto_region 6 with ((with_reducible refine gate_builtin (b := .append) (xs := #[.tmp 7, .tmp 11]) rfl ?_); go_must (at_builtin; refine Kd.R_append (Kd.int .u8) (w0 := v0) v0.heap.size rfl (.tmp 7) (.tmp 11) 23 5 (.int .u8 0) 1 rfl Try.underlying23 info_u8 rfl (by decide) (by omega) v bs (x.f0 % 256) [.int .u8 (x.f0 % 256)] (fun _ => True) (fun _ => False) rfl (by rw [size_alloc]; rfl) rfl (fun _ h => h.elim) (fun _ _ => trivial) HOa.out HBa.out HBa.out.size (by have := HL.out; omega) ?_; intro v1 w2 ho hb hg hat; obtain ⟨bs1, hbs1⟩ : ∃ b, bs ++ [x.f0 % 256] = b := ⟨_, rfl⟩; rw [hbs1] at ho; have HBS := Aside0.mk hbs1; clear hbs1; obtain ⟨A9, c9, rfl⟩ := Kd.R_slice ho; have hne := Kd.R_ne HOa.out H5a.out (by decide); have hnx := Kd.R_ne HOa.out HXa.out (by decide); have hns := Kd.R_ne HOa.out HS1.out (by decide); have H52 := Aside0.mk (show Blk w2 g5 23 #[v] from blk_grown H5a.out hg hne); have HX2 := Aside0.mk (show Blk w2 W.heap.size 26 #[.int .i64 x.f0, .int .u64 x.f1, .slice A2 x.f2.length c2, .slice A3 x.f3.length c3] from blk_grown HXa.out hg hnx); have HS2 := Aside0.mk (show Blk w2 w1.heap.size 69 #[.bool (thereB x.f0), .bool false, .bool true, .int .i64 (kidT x.f0 : Int)] from blk_grown HS1.out hg hns); have HO2 := Aside0.mk ho; have HB2 := Aside0.mk hb; have HK2 := Aside0.mk (HKa.out.grown HOa.out hg); have y5 := blk_frozen H52.out 0; have p5 := H52.out.cell 0; have s1 := HS2.out.cell 1; have s2 := HS2.out.cell 2; simp only [List.getElem?_toArray, List.getElem?_cons_zero, List.getElem?_cons_succ] at p5 s1 s2; clear hne hnx hns ho hb hg hat))
      obtain ⟨W3, hW3⟩ : ∃ w', w2.setCell ⟨g5, 0, none⟩ (.slice A9 bs1.length c9) = w' := ⟨_, rfl⟩
      have hlt : g5 < W.heap.size := HXL.out.1
      have H53 := Aside0.mk (show Blk W3 g5 23 #[.slice A9 bs1.length c9] by rw [← hW3]; have h := blk_set H52.out 0 (.slice A9 bs1.length c9); simpa [Blk] using h)
      have HO3 := Aside0.mk (show Ob W3 v0.heap.size (.slice A9 bs1.length c9) bs1 by rw [← hW3]; exact Kd.R_set HO2.out H52.out (by decide) 0 _)
      have HX3 := Aside0.mk (show Blk W3 W.heap.size 26 #[.int .i64 x.f0, .int .u64 x.f1, .slice A2 x.f2.length c2, .slice A3 x.f3.length c3] by rw [← hW3]; exact blk_far HX2.out (by dsimp only; omega) _)
      have HS3 := Aside0.mk (show Blk W3 w1.heap.size 69 #[.bool (thereB x.f0), .bool false, .bool true, .int .i64 (kidT x.f0 : Int)] by rw [← hW3]; exact blk_far HS2.out (by have := HXL.out; dsimp only; omega) _)
      have HB3 := Aside0.mk (show Below v0.heap.size v0 W3 by rw [← hW3]; exact below_set HB2.out HG.out)
      have HK3 := Aside0.mk (show KeepT g5 W W3 by rw [← hW3]; exact HK2.out.set)
      rw [hW3]
      clear hW3 H52 HO2 HX2 HS2 HB2 H51 HO1 HX1 HB1 HS1 HOa H5a HXa HBa q5 qx y5 p5 s1 s2 hlt
      have HL1 := Aside0.mk (show bs1.length ≤ 1000001 by rw [← HBS.out]; simp; exact HL.out)
      have q5 := H53.out.cell 0
      have qx := HX3.out.cell 2
      simp only [List.getElem?_toArray, List.getElem?_cons_zero, List.getElem?_cons_succ] at q5 qx
      have H53d := Aside0.mk (H53.out.below (below_drew1 (Below.refl W3.heap.size W3)))
      have HO3d := Aside0.mk (Kd.R_drew HO3.out)
      have HX3d := Aside0.mk (HX3.out.below (below_drew1 (Below.refl W3.heap.size W3)))
      have HS3d := Aside0.mk (HS3.out.below (below_drew1 (Below.refl W3.heap.size W3)))
      have HB3d := Aside0.mk (below_drew1 HB3.out)
      have HK3d := Aside0.mk (HK3.out.step (below_drew1 (Below.refl _ _)))
      have HLN := Aside0.mk (show (textB x.f2).length ≤ 109 by have := HD.out; have h1 := numB_len (n := (x.f2.length : Int)) (by omega); unfold textB; rw [List.length_append]; omega)
      go_region_law (first
        | (go_simp; go_at_call 45; refine (text_c A2 c2 x.f2 _ (Kd.C_below HX.out.1.2 HB3d.out) HX.out.1.1 (by have := HD.out; omega)).mono ?_; rintro e w4 ⟨v4, rfl, ho, hb⟩; have H54 := Aside0.mk (H53d.out.below hb); have HO4 := Aside0.mk (Kd.R_below HO3d.out hb); have HS4 := Aside0.mk (HS3d.out.below hb); have HB4 := Aside0.mk (below_step HB3d.out hb); have HK4 := Aside0.mk (HK3d.out.step hb); have q54 := H54.out.cell 0; simp only [List.getElem?_toArray, List.getElem?_cons_zero, List.getElem?_cons_succ] at q54; obtain ⟨A4, c4, rfl, hl4, hr4⟩ := Ob.reads ho; have HR4 := Aside0.mk hr4; clear hb ho hl4 hr4)
        | (refine Kd.R_append_rows_step (Kd.int .u8) (w0 := v0) v0.heap.size rfl (.tmp 22) (.tmp 25) 23 5 (.int .u8 0) 1 rfl Try.underlying23 info_u8 rfl (by decide) (by omega) (.slice A9 bs1.length c9) bs1 (textB x.f2) _ _ _ (fun _ => True) (fun _ => False) rfl rfl HO4.out HR4.out (fun _ _ h => h) (fun _ h => h.elim) (fun _ _ => trivial) HB4.out HB4.out.size (by have := HL1.out; have := HLN.out; omega) ?_; intro v5 w5 ho hb hg hat; have hne := Kd.R_ne HO4.out H54.out (by decide); have hns := Kd.R_ne HO4.out HS4.out (by decide); have H55 := Aside0.mk (show Blk w5 g5 23 #[.slice A9 bs1.length c9] from blk_grown H54.out hg hne); have HS5 := Aside0.mk (show Blk w5 w1.heap.size 69 #[.bool (thereB x.f0), .bool false, .bool true, .int .i64 (kidT x.f0 : Int)] from blk_grown HS4.out hg hns); have HO5 := Aside0.mk ho; have HB5 := Aside0.mk hb; have HK5 := Aside0.mk (HK4.out.grown HO4.out hg); have y5 := blk_frozen H55.out 0; have p5 := H55.out.cell 0; simp only [List.getElem?_toArray, List.getElem?_cons_zero, List.getElem?_cons_succ] at p5; obtain ⟨A6, c6, rfl⟩ := Kd.R_slice ho; clear hne hns ho hb hg hat))
      all_goals
        go_wp2_with (fail)
        go_end0
        have h := inv_set HG.out HB5.out H55.out HO5.out
        rw [List.length_append] at h
        rw [show bs ++ (x.f0 % 256) :: hh = bs1 ++ textB x.f2 by rw [← HBS.out, HH.out, List.append_assoc]; rfl]
        exact ⟨rfl, h, HK5.out.set⟩
    | false =>
      rw [hdat] at HSH
      rw [hdat, if_neg (by decide)] at HH
      clear hdat
      go_enter Try.func42, Try.ntmps42
      go_wp2_with (fail)
      refine (HSH.out _).mono ?_
      rintro e w1 ⟨rfl, hb⟩
      have H51 := Aside0.mk (H5.out.below hb)
      have HO1 := Aside0.mk (Kd.R_below HO.out hb)
      have HX1 := Aside0.mk (HX0.out.below hb)
      have HB1 := Aside0.mk (below_step HB.out hb)
      have HK1 := Aside0.mk (HK.out.step hb)
      have q5 := fun o => ((H51.out.alloc o).cell 0)
      have qx := fun o => ((HX1.out.alloc o).cell 0)
      simp only [List.getElem?_toArray, List.getElem?_cons_zero, List.getElem?_cons_succ] at q5 qx
      clear hb H5 HO HX0 HB HSH
      have HXL := Aside0.mk (show g5 < W.heap.size ∧ W.heap.size < w1.heap.size from ⟨HGL.out, HX1.out.lt⟩)
      have HS1 := Aside0.mk (show Blk (w1.alloc (.cells #[.bool (thereB x.f0), .bool false, .bool false, .int .i64 (kidT x.f0 : Int)] 69)) w1.heap.size 69 #[.bool (thereB x.f0), .bool false, .bool false, .int .i64 (kidT x.f0 : Int)] from blk_new _ _)
      have HOa := Aside0.mk (show Ob (w1.alloc (.cells #[.bool (thereB x.f0), .bool false, .bool false, .int .i64 (kidT x.f0 : Int)] 69)) v0.heap.size v bs from Kd.R_below HO1.out (below_alloc (Below.refl _ _) _))
      have H5a := Aside0.mk (show Blk (w1.alloc (.cells #[.bool (thereB x.f0), .bool false, .bool false, .int .i64 (kidT x.f0 : Int)] 69)) g5 23 #[v] from H51.out.alloc _)
      have HXa := Aside0.mk (show Blk (w1.alloc (.cells #[.bool (thereB x.f0), .bool false, .bool false, .int .i64 (kidT x.f0 : Int)] 69)) W.heap.size 26 #[.int .i64 x.f0, .int .u64 x.f1, .slice A2 x.f2.length c2, .slice A3 x.f3.length c3] from HX1.out.alloc _)
      have HBa := Aside0.mk (show Below v0.heap.size v0 (w1.alloc (.cells #[.bool (thereB x.f0), .bool false, .bool false, .int .i64 (kidT x.f0 : Int)] 69)) from below_alloc HB1.out _)
      have HKa := Aside0.mk (HK1.out.step (below_alloc (Below.refl _ _) (.cells #[.bool (thereB x.f0), .bool false, .bool false, .int .i64 (kidT x.f0 : Int)] 69)))
      go_wp2_with ((with_reducible refine gate_builtin (b := .append) (xs := #[.tmp 7, .tmp 11]) rfl ?_); go_must (at_builtin; refine Kd.R_append (Kd.int .u8) (w0 := v0) v0.heap.size rfl (.tmp 7) (.tmp 11) 23 5 (.int .u8 0) 1 rfl Try.underlying23 info_u8 rfl (by decide) (by omega) v bs (x.f0 % 256) [.int .u8 (x.f0 % 256)] (fun _ => True) (fun _ => False) rfl (by rw [size_alloc]; rfl) rfl (fun _ h => h.elim) (fun _ _ => trivial) HOa.out HBa.out HBa.out.size (by have := HL.out; omega) ?_; intro v1 w2 ho hb hg hat; obtain ⟨bs1, hbs1⟩ : ∃ b, bs ++ [x.f0 % 256] = b := ⟨_, rfl⟩; rw [hbs1] at ho; have HBS := Aside0.mk hbs1; clear hbs1; obtain ⟨A9, c9, rfl⟩ := Kd.R_slice ho; have hne := Kd.R_ne HOa.out H5a.out (by decide); have hnx := Kd.R_ne HOa.out HXa.out (by decide); have hns := Kd.R_ne HOa.out HS1.out (by decide); have H52 := Aside0.mk (show Blk w2 g5 23 #[v] from blk_grown H5a.out hg hne); have HX2 := Aside0.mk (show Blk w2 W.heap.size 26 #[.int .i64 x.f0, .int .u64 x.f1, .slice A2 x.f2.length c2, .slice A3 x.f3.length c3] from blk_grown HXa.out hg hnx); have HS2 := Aside0.mk (show Blk w2 w1.heap.size 69 #[.bool (thereB x.f0), .bool false, .bool false, .int .i64 (kidT x.f0 : Int)] from blk_grown HS1.out hg hns); have HO2 := Aside0.mk ho; have HB2 := Aside0.mk hb; have HK2 := Aside0.mk (HKa.out.grown HOa.out hg); have y5 := blk_frozen H52.out 0; have p5 := H52.out.cell 0; have s1 := HS2.out.cell 1; have s2 := HS2.out.cell 2; simp only [List.getElem?_toArray, List.getElem?_cons_zero, List.getElem?_cons_succ] at p5 s1 s2; clear hne hnx hns ho hb hg hat))
      go_end0
      have h := inv_set HG.out HB2.out H52.out HO2.out
      rw [← HBS.out] at h
      rw [HH.out]
      rw [← HBS.out]
      exact ⟨rfl, h, HK2.out.set⟩
end Go.Proofs.Ytgohmganimamcaa.Term
/- term.walk with Put's visitor walked: a term's bytes. -/
namespace Go.Proofs.Ytgohmganimamcaa.Term
set_option linter.unusedVariables false
set_option linter.unusedSimpArgs false
open Go.RowKit Go.Proofs.Ytgohmganimamcaa.Base Go.Proofs.Ytgohmganimamcaa.TlvPlain Go.Proofs.Ytgohmganimamcaa.Lo Go.Proofs.Ytgohmganimamcaa.RdPlain Go.Proofs.Ytgohmganimamcaa.Aid Go.Proofs.Ytgohmganimamcaa.PZ Go.Proofs.YtgohmganimamcaaW.PrintWords Go.Proofs.YtgohmganimamcaaW.PrintLast Go.Proofs.YtgohmganimamcaaW.PrintMore
def WalkP (x : ST) : Prop := ∀ (v0 : World) (g5 : Nat) A2 c2 A3 c3 (W : World) (bs : List Int), InvP v0 g5 W bs → RowsT v0 x A2 c2 A3 c3 → bs.length + (putT x).length ≤ 1000000 →
  Calls Try.prog 41 #[.agg #[.int .i64 x.f0, .int .u64 x.f1, .slice A2 x.f2.length c2, .slice A3 x.f3.length c3], .func (.func 42) #[] #[.pointer (some ⟨g5, 0, none⟩)]] W fun e w' => e = .returned (.tuple #[]) ∧ InvP v0 g5 w' (bs ++ putT x)
theorem flat_snoc (f : ST → List Int) (l : List ST) (i : Nat) (h : i < l.length) : ((l.take (i + 1)).map f).flatten = ((l.take i).map f).flatten ++ f l[i] := by
  rw [List.take_succ_eq_append_getElem h, List.map_append, List.flatten_append]
  simp
theorem flat_le (f : ST → List Int) (l : List ST) (i : Nat) (h : i < l.length) : ((l.take i).map f).flatten.length + (f l[i]).length ≤ (l.map f).flatten.length := by
  have e : (l.map f).flatten = ((l.take (i + 1)).map f).flatten ++ ((l.drop (i + 1)).map f).flatten := by
    rw [← List.flatten_append, ← List.map_append, List.take_append_drop]
  rw [e, flat_snoc f l i h, List.length_append, List.length_append]
  omega
set_option maxHeartbeats 4000000 in
set_option maxRecDepth 100000 in
theorem walk_put : ∀ (d : Nat) (x : ST), mayT d x = true → wfT x → WalkP x := by
  intro d
  induction d with
  | zero => intro x h; rw [mayT] at h; cases h
  | succ d ih =>
    intro x hm hw v0 g5 A2 c2 A3 c3 W bs hI hx hl
    obtain ⟨m1, m2, m3, m4, hd, m5, hk⟩ := may_parts hm
    obtain ⟨hn, m6, hwk⟩ := (wfT_eq x).1 hw
    clear m1 m2 m3 m4 m5 m6
    have hb0 := below_alloc (Below.refl W.heap.size W) (.cells #[.int .i64 x.f0, .int .u64 x.f1, .slice A2 x.f2.length c2, .slice A3 x.f3.length c3] 26)
    have HG := Aside0.mk (show g5 < W.heap.size by obtain ⟨_, _, v, h, _⟩ := hI; exact h.lt)
    have hpt := putT_eq x
    have HLT := Aside0.mk (show bs.length + 1 + (headT x).length + ((x.f3.map putT).flatten).length ≤ 1000000 by rw [hpt] at hl; simp only [List.length_cons, List.length_append] at hl; omega)
    have HV := Aside0.mk (visit_c v0 g5 x A2 c2 A3 c3 _ bs (hI.below hb0) hx hn hd (by omega))
    have H0 := Aside0.mk (show Blk (W.alloc (.cells #[.int .i64 x.f0, .int .u64 x.f1, .slice A2 x.f2.length c2, .slice A3 x.f3.length c3] 26)) W.heap.size 26 #[.int .i64 x.f0, .int .u64 x.f1, .slice A2 x.f2.length c2, .slice A3 x.f3.length c3] from blk_new _ _)
    have HIH := Aside0.mk (fun k (hkm : k ∈ x.f3) => ih k (hk k hkm) (hwk k hkm))
    have HX := Aside0.mk hx
    have HPT := Aside0.mk hpt
    have HM := Aside0.mk hx.2.2.2.1
    have hu26 := Try.underlying26
    have hu24 := Try.underlying24
    clear ih hm hw hI hx hl hd hk hn hwk hb0 hpt
    go_enter Try.func41, Try.ntmps41
    go_wp2_with (go_at_call 42; refine HV.out.mono ?_; rintro e w1 ⟨rfl, hi, hkt⟩; have HI := Aside0.mk hi; have h1 := hkt _ _ _ (by have := HG.out; omega) (by decide) H0.out; have s3 := h1.cell 3; simp only [List.getElem?_toArray, List.getElem?_cons_zero, List.getElem?_cons_succ] at s3; clear hi hkt h1)
    go_loopg [12] x.f3.length (fun gf s12 wx => ∃ (i : Nat), s12 = .int .i64 (i : Int) ∧ i + gf = x.f3.length ∧ InvP v0 g5 wx (bs ++ ((x.f0 % 256) :: headT x) ++ ((x.f3.take i).map putT).flatten))
    case atStart => exact ⟨0, rfl, by omega, by have h := HI.out; simpa using h⟩
    case round =>
      obtain ⟨i, rfl, hi, hinv⟩ := hrel
      have HJ := Aside0.mk hinv
      have HQ := Aside0.mk hi
      clear hinv hi
      by_cases hlt : i < x.f3.length
      · have hl1 : decide ((i : Int) < (x.f3.length : Int)) = true := decide_eq_true (by omega)
        have hw1 : wrap64 ((i : Int) + 1) = ((i + 1 : Nat) : Int) := by rw [Aid.w64 (by omega) (by have := HM.out; omega)]; omega
        obtain ⟨ad, B2, d2, B3, d3, rfl, hx0, hx1, hx2, hx3, hl2, hr2, hl3, hr3⟩ := at_T26 HX.out.2.2 (i : Int) (by omega) (by omega)
        have hrd : rd_T26 x.f3 (i : Int) = x.f3[i] := by simp [rd_T26, List.getD_eq_getElem?_getD, List.getElem?_eq_getElem hlt]
        have hbm := HJ.out.2.1
        replace hx0 := (hbm.cell (World.block_lt_of_cell? _ _ hx0)).trans hx0
        replace hx1 := (hbm.cell (World.block_lt_of_cell? _ _ hx1)).trans hx1
        replace hx2 := (hbm.cell (World.block_lt_of_cell? _ _ hx2)).trans hx2
        replace hx3 := (hbm.cell (World.block_lt_of_cell? _ _ hx3)).trans hx3
        clear hbm
        rw [hrd] at hx0 hx1 hx2 hx3 hl2 hr2 hl3 hr3
        simp only [Int.toNat_natCast] at hx0 hx1 hx2 hx3
        have HC := Aside0.mk (HIH.out x.f3[i] (List.getElem_mem hlt))
        have HR := Aside0.mk (show RowsT v0 x.f3[i] B2 d2 B3 d3 from ⟨⟨hl2, hr2⟩, hl3, hr3⟩)
        have HS := Aside0.mk (flat_snoc putT x.f3 i hlt)
        have HLE := Aside0.mk (flat_le putT x.f3 i hlt)
        obtain ⟨y, hy⟩ : ∃ y, x.f3[i] = y := ⟨_, rfl⟩
        rw [hy] at hx0 hx1 hx2 hx3 HC HR HS HLE
        clear hy hrd hl2 hr2 hl3 hr3
        have p1 : (0 : Int) ≤ (i : Int) := by omega
        have p2 : (i : Int) < (x.f3.length : Int) := by omega
        have HLL := Aside0.mk (show (bs ++ ((x.f0 % 256) :: headT x) ++ ((x.f3.take i).map putT).flatten).length + (putT y).length ≤ 1000000 by
          have h1 := HLT.out
          have h2 := HLE.out
          simp only [List.length_append, List.length_cons]
          omega)
        clear hlt
        go_wp2_with (go_at_call 41; refine (HC.out v0 g5 B2 d2 B3 d3 _ _ (HJ.out.below (below_alloc (Below.refl _ _) _)) HR.out HLL.out).mono ?_; rintro e w' ⟨rfl, hv⟩; have HVV := Aside0.mk hv; clear hv)
        go_roundg (x.f3.length - (i + 1))
        case measure => have := HQ.out; omega
        case rel => exact ⟨i + 1, by first | rfl | rw [hw1], by omega, by rw [HS.out, ← List.append_assoc]; exact HVV.out⟩
      · have hl1 : decide ((i : Int) < (x.f3.length : Int)) = false := decide_eq_false (by omega)
        have HE := Aside0.mk (show bs ++ ((x.f0 % 256) :: headT x) ++ ((x.f3.take i).map putT).flatten = bs ++ putT x by
          rw [HPT.out, List.take_of_length_le (by omega)]; simp)
        go_wp2
        go_end0
        have h := HJ.out
        rw [HE.out] at h
        exact ⟨rfl, h⟩
end Go.Proofs.Ytgohmganimamcaa.Term
/- The walks of package tlv: what each of its functions does to memory. -/
namespace Go.Proofs.Ytgohmganimamcaa.Tlv
open Go.Proofs.Ytgohmganimamcaa.Base Go.Proofs.Ytgohmganimamcaa.TlvPlain Go.RowKit Go.Proofs.YtgohmganimamcaaW.PrintWords Go.Proofs.YtgohmganimamcaaW.PrintLast Go.Proofs.YtgohmganimamcaaW.PrintMore

/-- A cut of bytes, and in which block it lies. -/
theorem cut2 {P : Program} (t e : TypeId) (kl : IntKind) {i : TypeInfo} (ht : P.underlying t = some (.slice e)) (hi : P.info? e = some i) (hsz : i.size = 1) (A : Option Addr) (n c m : Nat) (hm : m ≤ n) :
    ∃ A' : Option Addr, (∀ W : World, (Instr.slice t (.slice A n c) (some (.int kl (m : Int))) none none).run P W = .ok (.slice A' (n - m) (c - m)) W) ∧
      (∀ (w : World) (k : IntKind) (xs : List Int), n ≤ c → ReadsInt w k A n xs → ReadsInt w k A' (n - m) (xs.drop m)) ∧ (∀ ad', A' = some ad' → ∃ ad, A = some ad ∧ ad'.block = ad.block) := by
  refine ⟨if c = m then A else A.map (·.add m), fun W => ?_, fun w k xs hc h => h.drop_ m hm hc, fun ad' h => ?_⟩
  · have hel : P.elem t = e := by simp [Program.elem, ht]
    have hu : P.underlying t = some (.slice (P.elem t)) := by rw [hel]; exact ht
    rw [run_slice_l W t A n c hu kl (m : Int) (Int.natCast_nonneg _) (by omega), hel]
    simp [sizeOf, typeInfo, hi, hsz, sliced, Result.andThen]
  · split at h
    · exact ⟨ad', h, rfl⟩
    · obtain ⟨ad, h1, rfl⟩ := Option.map_eq_some_iff.1 h
      exact ⟨ad, h1, by unfold Addr.add; split <;> rfl⟩
/-- A reader at block g: made, failed, and the bytes that are left. -/
def Rdr (w0 W : World) (g : Nat) (made failed : Bool) (bs : List Int) : Prop :=
  w0.heap.size ≤ g ∧ ∃ A c, W.heap[g]? = some (.cells #[.bool made, .bool failed, .slice A bs.length c] 93 (0, 0)) ∧ bs.length ≤ c ∧ Rb W A bs ∧ bs.length < 140737488355328 ∧ U8 bs ∧ ∀ ad, A = some ad → ad.block < g
theorem Rdr.lower {w0 w1 W : World} {g : Nat} {m f : Bool} {bs : List Int} (h : Rdr w1 W g m f bs) (hs : w0.heap.size ≤ w1.heap.size) : Rdr w0 W g m f bs := ⟨Nat.le_trans hs h.1, h.2⟩
theorem cells_no_int {m f : Bool} {A : Option Addr} {n c : Nat} (i : Nat) (v : Value) (h : (#[Value.bool m, .bool f, .slice A n c] : Array Value)[i]? = some v) (k : Int) : v ≠ .int .u8 k := by
  match i, h with
  | 0, h => cases h; simp
  | 1, h => cases h; simp
  | 2, h => cases h; simp
theorem Rdr.below {w0 W W1 : World} {g : Nat} {m f : Bool} {bs : List Int} (h : Rdr w0 W g m f bs) (hb : Below W.heap.size W W1) : Rdr w0 W1 g m f bs := by
  obtain ⟨h0, A, c, h1, h2, h3, h4⟩ := h
  exact ⟨h0, A, c, (hb.block g (blk_lt h1)).trans h1, h2, Kd.C_below h3 hb, h4⟩
/-- Where another block alone was written, in which no numbers lie. -/
theorem Rdr.keep {w0 W W1 : World} {g g' : Nat} {m f : Bool} {bs : List Int} (h : Rdr w0 W g m f bs) (hk : KeepBut W W1 g' none) (hne : g ≠ g') {T : Nat} {cs : Array Value} (hb : W.heap[g']? = some (.cells cs T (0, 0))) (hcs : ∀ i : Nat, ∀ v, cs[i]? = some v → ∀ n, v ≠ Value.int .u8 n) : Rdr w0 W1 g m f bs := by
  obtain ⟨h0, A, c, h1, h2, h3, h4⟩ := h
  exact ⟨h0, A, c, hk.blk h1 hne (by simp), h2, reads_keep h3 hk (reads_ne hb hcs h3), h4⟩
theorem Rdr.grown {w0 W W1 : World} {g : Nat} {m f : Bool} {bs : List Int} {row : Option Nat} (h : Rdr w0 W g m f bs) (hg : W.grownBy W1 row) (hr : ∀ b, row = some b → g < b) : Rdr w0 W1 g m f bs := by
  obtain ⟨h0, A, c, h1, h2, h3, h4⟩ := h
  have hne : some g ≠ row := fun e => Nat.lt_irrefl g (hr g e.symm)
  refine ⟨h0, A, c, blk_grown h1 hg hne, h2, ?_, h4⟩
  cases row with
  | none => exact reads_keep h3 (KeepBut.of_grown hg W.heap.size) (fun ad e _ => by have := h4.2.2 ad e; have := blk_lt h1; omega)
  | some q =>
    have hk : KeepBut W W1 q none := ⟨hg.size, fun i hi h1 _ => hg.block i hi (fun e => h1 (Option.some.inj e))⟩
    exact reads_keep h3 hk (fun ad e _ => by have := h4.2.2 ad e; have := hr q rfl; omega)
theorem Rdr.set {w0 W : World} {g : Nat} {m f : Bool} {bs : List Int} (h : Rdr w0 W g m f bs) (f' : Bool) : Rdr w0 (W.setCell ⟨g, 1, none⟩ (.bool f')) g m f' bs := by
  obtain ⟨h0, A, c, h1, h2, h3, h4⟩ := h
  exact ⟨h0, A, c, by simpa using blk_set h1 1 (.bool f'), h2, reads_keep h3 (keep_set _ _ _ _) (reads_ne h1 cells_no_int h3), h4⟩
theorem Rdr.cut {w0 W : World} {g : Nat} {m f : Bool} {bs cs : List Int} (h : Rdr w0 W g m f bs) {A' : Option Addr} {c' : Nat} (hc : cs.length ≤ c') (hr : Rb W A' cs) (hl : cs.length ≤ bs.length) (hu : U8 cs) (hbl : ∀ ad, A' = some ad → ad.block < g) : Rdr w0 (W.setCell ⟨g, 2, none⟩ (.slice A' cs.length c')) g m f cs := by
  obtain ⟨h0, A, c, h1, h2, h3, h4⟩ := h
  exact ⟨h0, A', c', by simpa using blk_set h1 2 (.slice A' cs.length c'), hc, reads_keep hr (keep_set _ _ _ _) (reads_ne h1 cells_no_int hr), Nat.lt_of_le_of_lt hl h4.1, hu, hbl⟩

set_option maxHeartbeats 800000 in
set_option maxRecDepth 100000 in
theorem clone (A0 : Option Addr) (c0 : Nat) (l0 : List Int) (w : World) (hr0 : Kd.C (Kd.int .u8) w A0 l0.length l0) (hc0 : l0.length ≤ c0) (hl : l0.length < 140737488355328) :
    Calls Try.prog 63 #[.slice A0 l0.length c0] w fun e w' => ∃ v : Value, e = .returned v ∧ Kd.R (Kd.int .u8) 5 w' w.heap.size (fun _ => True) v l0 ∧ Below w.heap.size w w' := by
  have hq := fun (n c : Nat) => Lib.run_eql_slice_nil (P := Try.prog) w 23 5 A0 n c 0 0 Try.underlying23
  have HR := Aside0.mk hr0
  have HL := Aside0.mk hl
  have HC := Aside0.mk hc0
  clear hr0 hl hc0
  cases A0 with
  | none =>
    have hz : l0 = [] := by
      have h := HR.out
      cases l0 with
      | nil => rfl
      | cons x xs => obtain ⟨ad, c, e, _⟩ := Kd.C_get h 0 0 (by omega) (by simp); cases e
    subst hz
    clear HR HL HC
    go_enter Try.func63, Try.ntmps63
    go_wp2
    go_ret
    exact ⟨_, rfl, Kd.R_nil _ _ _ _ _, Below.refl _ _⟩
  | some a =>
    have HB := Aside0.mk (Below.refl w.heap.size w)
    go_enter Try.func63, Try.ntmps63
    go_wp2_with (first
      | ((with_reducible refine gate_dst (N := 5) rfl ?_); refine Kd.R_lit (Kd.int .u8) _ 5 ?hg (N := 5) ?hd (xs := ([] : List Int)) (inner := []) (ok := fun _ => True) (okp := fun _ => True) ?hr ?hp (fun _ hk => hk) trivial (Below.refl _ _) (Nat.le_refl _) (by simp) ?_; (case hd => rfl); (case hg => rfl); (case hr => first | (go_simp; done) | (go_simp; rfl)); (case hp => exact (Reps.none _ _)); intro v255 w3 ho4 hb hg_ hnew_; clear hg_ hnew_; have n0_ := Aside0.mk (Kd.R_lower ho4 (below_size HB.out)); have n1_ := Aside0.mk (below_step HB.out hb); clear HB; have HO := n0_; have HB := n1_; clear n0_ n1_; clear hb ho4)
      | ((with_reducible refine gate_builtin (b := .append) (xs := #[.tmp 5, .tmp 6]) rfl ?_); at_builtin; refine Kd.R_append_rows (Kd.int .u8) (w0 := w) w.heap.size rfl (.tmp 5) (.tmp 6) 23 5 (.int .u8 0) 1 rfl Try.underlying23 info_u8 rfl (by decide) (by omega) v255 [] l0 _ _ _ (fun _ => True) (fun _ => False) rfl rfl HO.out (Kd.C_below HR.out HB.out) (fun _ _ h => h) (fun _ h => h.elim) (fun _ _ => trivial) HB.out (below_size HB.out) (by have := HL.out; simp; omega) ?_; intro v258 w5 ho hb hg hat; have n0_ := Aside0.mk (hb); have n1_ := Aside0.mk (ho); clear HB; clear HO; have HB := n0_; have HO := n1_; clear n0_ n1_; clear ho hb hg hat))
    go_ret
    exact ⟨_, rfl, HO.out, HB.out⟩

theorem clone_n (A0 : Option Addr) (c0 n : Nat) (l0 : List Int) (w : World) (hr0 : Rb w A0 l0) (hn : l0.length = n) (hc0 : n ≤ c0) (hl : n < 140737488355328) :
    Calls Try.prog 63 #[.slice A0 n c0] w fun e w' => ∃ v : Value, e = .returned v ∧ Ob w' w.heap.size v l0 ∧ Below w.heap.size w w' := by
  subst hn
  exact clone A0 c0 l0 w hr0 hc0 hl

set_option maxHeartbeats 800000 in
set_option maxRecDepth 100000 in
theorem new_ (A0 : Option Addr) (c0 : Nat) (l0 : List Int) (w : World) (hr0 : Rb w A0 l0) (hc0 : l0.length ≤ c0) (hl : l0.length < 140737488355328) (hu : U8 l0) :
    Calls Try.prog 49 #[.slice A0 l0.length c0] w fun e w' => ∃ g : Nat, e = .returned (.pointer (some ⟨g, 0, none⟩)) ∧ Rdr w w' g true false l0 ∧ Below w.heap.size w w' := by
  have HR := Aside0.mk hr0
  have HL := Aside0.mk hl
  have HC := Aside0.mk hc0
  have HU := Aside0.mk hu
  clear hr0 hl hc0 hu
  go_enter Try.func49, Try.ntmps49
  go_wp2_with (go_at_call 63; refine (clone A0 c0 l0 _ HR.out HC.out HL.out).mono ?_; rintro e w1 ⟨v, rfl, ho, hb⟩; obtain ⟨A, c, rfl, hlc, hrd⟩ := Kd.R_reads ho; have HLT := Aside0.mk (show ∀ ad, A = some ad → ad.block < w1.heap.size from fun ad e => Kd.R_lt ho ad.block (by rw [e]; rfl)); have HO := Aside0.mk hrd; have HLC := Aside0.mk hlc; have HB := Aside0.mk hb; clear hrd hlc hb ho)
  go_ret
  refine ⟨_, rfl, ⟨HB.out.size, A, c, ?_, HLC.out, Kd.C_alloc HO.out _, HL.out, HU.out, HLT.out⟩, below_alloc HB.out _⟩
  exact blk_new _ _

set_option maxHeartbeats 800000 in
set_option maxRecDepth 100000 in
theorem ok_ (w0 w : World) (g : Nat) (m f : Bool) (bs : List Int) (h : Rdr w0 w g m f bs) :
    Calls Try.prog 70 #[.pointer (some ⟨g, 0, none⟩)] w fun e w' => e = .returned (.bool (m && !f)) ∧ w = w' := by
  obtain ⟨_, A, c, h1, _⟩ := h
  have hc0 := (blk_cell h1 0).trans rfl
  have hc1 := (blk_cell h1 1).trans rfl
  clear h1
  cases m <;> cases f
  all_goals
    go_enter Try.func70, Try.ntmps70
    go_wp2
    go_ret
    exact ⟨rfl, rfl⟩
set_option maxHeartbeats 800000 in
theorem fail_ (w0 w : World) (g : Nat) (m f : Bool) (bs : List Int) (h : Rdr w0 w g m f bs) :
    Calls Try.prog 80 #[.pointer (some ⟨g, 0, none⟩)] w fun e w' => e = .returned (.tuple #[]) ∧ w' = w.setCell ⟨g, 1, none⟩ (.bool true) := by
  obtain ⟨_, A, c, h1, _⟩ := h
  have hc1 := (blk_cell h1 1).trans rfl
  have hf1 := blk_frozen h1 1
  clear h1
  go_enter Try.func80, Try.ntmps80
  go_wp2
  go_end0
  exact ⟨rfl, rfl⟩
set_option maxHeartbeats 800000 in
theorem left_ (w0 w : World) (g : Nat) (m f : Bool) (bs : List Int) (h : Rdr w0 w g m f bs) :
    Calls Try.prog 51 #[.pointer (some ⟨g, 0, none⟩)] w fun e w' => e = .returned (.int .i64 (if m && !f then (bs.length : Int) else 0)) ∧ w = w' := by
  have HI := Aside0.mk h
  obtain ⟨_, A, c, h1, _⟩ := h
  have hc2 : w.cell? ⟨g, 2, none⟩ = some (.slice A bs.length c) := (blk_cell h1 2).trans rfl
  clear h1
  cases m <;> cases f
  all_goals
    go_enter Try.func51, Try.ntmps51
    go_wp2_with (go_at_call 70; refine (ok_ w0 w g _ _ bs HI.out).mono ?_; rintro e w' ⟨rfl, rfl⟩)
    go_ret
    exact ⟨rfl, rfl⟩

set_option maxHeartbeats 1600000 in
set_option maxRecDepth 100000 in
theorem take_bad (w0 w : World) (g : Nat) (m f : Bool) (bs : List Int) (n : Int) (h : Rdr w0 w g m f bs) (hB : Below w0.heap.size w0 w) (hbad : ¬ (m = true ∧ f = false ∧ 0 ≤ n ∧ n ≤ bs.length)) :
    Calls Try.prog 69 #[.pointer (some ⟨g, 0, none⟩), .int .i64 n] w fun e w' => ∃ v, e = .returned v ∧ Ob w' w.heap.size v [] ∧ Rdr w0 w' g m true bs ∧ Below w0.heap.size w0 w' ∧ KeepBut w w' g none := by
  have HI := Aside0.mk h
  have HB := Aside0.mk hB
  clear hB
  have hfin : Rdr w0 (w.setCell ⟨g, 1, none⟩ (.bool true)) g m true bs ∧ Below w0.heap.size w0 (w.setCell ⟨g, 1, none⟩ (.bool true)) ∧ KeepBut w (w.setCell ⟨g, 1, none⟩ (.bool true)) g none := ⟨h.set true, below_set HB.out h.1, keep_set _ _ _ _⟩
  have HF := Aside0.mk hfin
  clear hfin
  obtain ⟨_, A, c, h1, _⟩ := h
  have hc2 : w.cell? ⟨g, 2, none⟩ = some (.slice A bs.length c) := (blk_cell h1 2).trans rfl
  clear h1
  by_cases hok : m = true ∧ f = false
  · obtain ⟨rfl, rfl⟩ := hok
    by_cases hn : n < 0
    · have hd : decide (n < 0) = true := decide_eq_true hn
      clear hbad hn
      go_enter Try.func69, Try.ntmps69
      go_wp2_with (first | (go_at_call 70; refine (ok_ w0 w g true false bs HI.out).mono ?_; rintro e w' ⟨rfl, rfl⟩) | (go_at_call 80; refine (fail_ w0 w g true false bs HI.out).mono ?_; rintro e w' ⟨rfl, rfl⟩))
      go_ret
      exact ⟨_, rfl, Kd.R_nil _ _ _ _ _, HF.out⟩
    · have hd : decide (n < 0) = false := decide_eq_false hn
      have hg : decide ((bs.length : Int) < n) = true := decide_eq_true (by
        by_cases h2 : (bs.length : Int) < n
        · exact h2
        · exact absurd ⟨rfl, rfl, by omega, by omega⟩ hbad)
      clear hbad hn
      go_enter Try.func69, Try.ntmps69
      go_wp2_with (first | (go_at_call 70; refine (ok_ w0 w g true false bs HI.out).mono ?_; rintro e w' ⟨rfl, rfl⟩) | (go_at_call 80; refine (fail_ w0 w g true false bs HI.out).mono ?_; rintro e w' ⟨rfl, rfl⟩))
      go_ret
      exact ⟨_, rfl, Kd.R_nil _ _ _ _ _, HF.out⟩
  · clear hbad
    have hb : (m && !f) = false := by cases m <;> cases f <;> simp_all
    clear hok
    go_enter Try.func69, Try.ntmps69
    go_wp2_with (first | (go_at_call 70; refine (ok_ w0 w g m f bs HI.out).mono ?_; rintro e w' ⟨rfl, rfl⟩) | (go_at_call 80; refine (fail_ w0 w g m f bs HI.out).mono ?_; rintro e w' ⟨rfl, rfl⟩))
    go_ret
    exact ⟨_, rfl, Kd.R_nil _ _ _ _ _, HF.out⟩

set_option maxHeartbeats 1600000 in
set_option maxRecDepth 100000 in
theorem take_good (w0 w : World) (g : Nat) (bs : List Int) (n : Nat) (h : Rdr w0 w g true false bs) (hB : Below w0.heap.size w0 w) (hn : n ≤ bs.length) :
    Calls Try.prog 69 #[.pointer (some ⟨g, 0, none⟩), .int .i64 n] w fun e w' => ∃ v, e = .returned v ∧ Ob w' w.heap.size v (bs.take n) ∧ Rdr w0 w' g true false (bs.drop n) ∧ Below w0.heap.size w0 w' ∧ KeepBut w w' g none := by
  have HI := Aside0.mk h
  have HB := Aside0.mk hB
  clear hB
  obtain ⟨hg0, A, c, h1, h2, h3, h4⟩ := h
  have hnn : (0 : Int) ≤ (n : Int) := Int.natCast_nonneg _
  have hnc : (n : Int) ≤ (c : Int) := by omega
  have hd0 : decide ((n : Int) < 0) = false := decide_eq_false (by omega)
  have hd1 : decide ((bs.length : Int) < (n : Int)) = false := decide_eq_false (by omega)
  have hd2 : decide (bs.length < n) = false := decide_eq_false (by omega)
  have H1 := Aside0.mk h1
  have hc2 : w.cell? ⟨g, 2, none⟩ = some (.slice A bs.length c) := (blk_cell h1 2).trans rfl
  have hf2 := blk_frozen h1 2
  have h3' := Kd.reads_of_C (d := (0 : Int)) h3
  have hlen : bs.length ≤ 9223372036854775807 := h3'.2.1
  obtain ⟨i0, hi, hz0, hz1, hz2⟩ := info_parts info_u8
  obtain ⟨A', hcut, hA', hbk⟩ := cut2 (P := Try.prog) 23 5 .i64 Try.underlying23 hi hz1 A bs.length c n hn
  have hrest : Rb w A' (bs.drop n) := by
    have := Kd.C_of_reads (d := (0 : Int)) (h1 := fun _ => rfl) (hA' w .u8 bs h2 h3')
    rwa [← List.length_drop] at this
  have hfirst : Rb w A (bs.take n) := by
    have h5 := Kd.C_of_reads (d := (0 : Int)) (h1 := fun _ => rfl) (ReadsInt.take_ h3' n hn)
    show Kd.C _ w A (bs.take n).length (bs.take n)
    rw [show (bs.take n).length = n from by rw [List.length_take]; omega]
    exact h5
  have hR := (show Rdr w0 w g true false bs from ⟨hg0, A, c, h1, h2, h3, h4⟩).cut (c' := c - n) (by rw [List.length_drop]; omega) hrest (by rw [List.length_drop]; omega) (h4.2.1.drop n) (fun ad' e => by obtain ⟨ad, e2, e3⟩ := hbk ad' e; rw [e3]; exact h4.2.2 ad e2)
  rw [List.length_drop] at hR
  have HRd := Aside0.mk hR
  have HF := Aside0.mk (reads_keep hfirst (keep_set w g 2 (.slice A' (bs.length - n) (c - n))) (reads_ne h1 cells_no_int hfirst))
  have HBn := Aside0.mk (below_set (j := 2) (v := .slice A' (bs.length - n) (c - n)) HB.out hg0)
  have HKn := Aside0.mk (keep_set w g 2 (.slice A' (bs.length - n) (c - n)))
  have HTL := Aside0.mk (show (bs.take n).length = n by rw [List.length_take]; omega)
  have HBL := Aside0.mk (show n < 140737488355328 by have := h4.1; omega)
  clear hR hrest hfirst h1 h3 h4 hbk hA' h3' hi hz0 hz1 hz2 hg0
  go_enter Try.func69, Try.ntmps69
  go_wp2_with (first | (go_at_call 70; refine (ok_ w0 w g true false bs HI.out).mono ?_; rintro e w' ⟨rfl, rfl⟩) | (go_at_call 63; refine (clone_n A n n (bs.take n) _ HF.out HTL.out (Nat.le_refl _) HBL.out).mono ?_; rintro e w1 ⟨v, rfl, ho, hb⟩; have HO := Aside0.mk ho; have HW := Aside0.mk hb; clear ho hb))
  go_ret
  refine ⟨_, rfl, Kd.R_lower HO.out HKn.out.1, HRd.out.below HW.out, HBn.out.trans (HW.out.mono HBn.out.size), HKn.out.trans (KeepBut.of_below HW.out g none) (.inl rfl)⟩

/-- A reader's state: the bytes that are left, or that it failed. -/
def RdO (w0 W : World) (g : Nat) (st : Option (List Int)) : Prop :=
  match st with
  | some bs => Rdr w0 W g true false bs
  | none => ∃ m f bs, (m && !f) = false ∧ Rdr w0 W g m f bs
theorem RdO.any {w0 W : World} {g : Nat} {st : Option (List Int)} (h : RdO w0 W g st) : ∃ m f bs, (m && !f) = st.isSome ∧ Rdr w0 W g m f bs := by
  cases st with
  | some bs => exact ⟨true, false, bs, rfl, h⟩
  | none => exact h
theorem RdO.below {w0 W W1 : World} {g : Nat} {st : Option (List Int)} (h : RdO w0 W g st) (hb : Below W.heap.size W W1) : RdO w0 W1 g st := by
  cases st with
  | some bs => exact Rdr.below h hb
  | none => obtain ⟨m, f, bs, e, h⟩ := h; exact ⟨m, f, bs, e, h.below hb⟩
theorem RdO.keep {w0 W W1 : World} {g g' : Nat} {st : Option (List Int)} (h : RdO w0 W g st) (hk : KeepBut W W1 g' none) (hne : g ≠ g') {T : Nat} {cs : Array Value} (hb : W.heap[g']? = some (.cells cs T (0, 0))) (hcs : ∀ i : Nat, ∀ v, cs[i]? = some v → ∀ n, v ≠ Value.int .u8 n) : RdO w0 W1 g st := by
  cases st with
  | some bs => exact Rdr.keep h hk hne hb hcs
  | none => obtain ⟨m, f, bs, e, h⟩ := h; exact ⟨m, f, bs, e, h.keep hk hne hb hcs⟩
theorem RdO.grown {w0 W W1 : World} {g : Nat} {st : Option (List Int)} {row : Option Nat} (h : RdO w0 W g st) (hg : W.grownBy W1 row) (hr : ∀ b, row = some b → g < b) : RdO w0 W1 g st := by
  cases st with
  | some bs => exact Rdr.grown h hg hr
  | none => obtain ⟨m, f, bs, e, h⟩ := h; exact ⟨m, f, bs, e, h.grown hg hr⟩
theorem RdO.lower {w0 w1 W : World} {g : Nat} {st : Option (List Int)} (h : RdO w1 W g st) (hs : w0.heap.size ≤ w1.heap.size) : RdO w0 W g st := by
  cases st with
  | some bs => exact Rdr.lower h hs
  | none => obtain ⟨m, f, bs, e, h⟩ := h; exact ⟨m, f, bs, e, h.lower hs⟩
theorem RdO.blk {w0 W : World} {g : Nat} {st : Option (List Int)} (h : RdO w0 W g st) : w0.heap.size ≤ g ∧ g < W.heap.size ∧ ∃ cs, W.heap[g]? = some (.cells cs 93 (0, 0)) ∧ ∀ i : Nat, ∀ v, cs[i]? = some v → ∀ n, v ≠ Value.int .u8 n := by
  obtain ⟨m, f, bs, _, h0, A, c, h1, _⟩ := h.any
  exact ⟨h0, blk_lt h1, _, h1, cells_no_int⟩
theorem RdO.u8 {w0 W : World} {g : Nat} {bs : List Int} (h : RdO w0 W g (some bs)) : U8 bs ∧ bs.length < 140737488355328 := by
  obtain ⟨_, _, _, _, _, _, h1, h2⟩ := (show Rdr w0 W g true false bs from h)
  exact ⟨h2.1, h1⟩
/-- What a call that is handed a reader leaves. -/
def Left (w0 w w' : World) (g : Nat) (st : Option (List Int)) : Prop := RdO w0 w' g st ∧ Below w0.heap.size w0 w' ∧ KeepBut w w' g none
theorem Left.trans {w0 w w1 w2 : World} {g : Nat} {s1 s2 : Option (List Int)} (h : Left w0 w w1 g s1) (k : Left w0 w1 w2 g s2) : Left w0 w w2 g s2 := ⟨k.1, k.2.1, h.2.2.trans k.2.2 (.inl rfl)⟩
theorem Left.refl {w0 w : World} {g : Nat} {st : Option (List Int)} (h : RdO w0 w g st) (hB : Below w0.heap.size w0 w) : Left w0 w w g st := ⟨h, hB, KeepBut.refl _ _ _⟩

theorem okO (w0 w : World) (g : Nat) (st : Option (List Int)) (h : RdO w0 w g st) :
    Calls Try.prog 70 #[.pointer (some ⟨g, 0, none⟩)] w fun e w' => e = .returned (.bool st.isSome) ∧ w = w' := by
  obtain ⟨m, f, bs, e, h⟩ := h.any
  rw [← e]
  exact ok_ w0 w g m f bs h
theorem leftO_ (w0 w : World) (g : Nat) (st : Option (List Int)) (h : RdO w0 w g st) :
    Calls Try.prog 51 #[.pointer (some ⟨g, 0, none⟩)] w fun e w' => e = .returned (.int .i64 (leftO st)) ∧ w = w' := by
  cases st with
  | some bs => exact left_ w0 w g true false bs h
  | none =>
    obtain ⟨m, f, bs, e, h⟩ := h
    have := left_ w0 w g m f bs h
    rw [e] at this
    exact this
theorem failO (w0 w : World) (g : Nat) (st : Option (List Int)) (h : RdO w0 w g st) (hB : Below w0.heap.size w0 w) :
    Calls Try.prog 80 #[.pointer (some ⟨g, 0, none⟩)] w fun e w' => e = .returned (.tuple #[]) ∧ Left w0 w w' g none := by
  obtain ⟨m, f, bs, e, h⟩ := h.any
  refine (fail_ w0 w g m f bs h).mono ?_
  rintro e w' ⟨rfl, rfl⟩
  exact ⟨rfl, ⟨m, true, bs, by cases m <;> rfl, h.set true⟩, below_set hB h.1, keep_set _ _ _ _⟩
theorem takeO_ (w0 w : World) (g : Nat) (st : Option (List Int)) (n : Int) (h : RdO w0 w g st) (hB : Below w0.heap.size w0 w) :
    Calls Try.prog 69 #[.pointer (some ⟨g, 0, none⟩), .int .i64 n] w fun e w' => ∃ v, e = .returned v ∧ Ob w' w.heap.size v (takeO st n).1 ∧ Left w0 w w' g (takeO st n).2 := by
  cases st with
  | some bs =>
    by_cases hn : 0 ≤ n ∧ n ≤ bs.length
    · obtain ⟨m, rfl⟩ := Int.eq_ofNat_of_zero_le hn.1
      have e : takeO (some bs) (m : Int) = (bs.take m, some (bs.drop m)) := by simp only [takeO]; rw [if_pos hn]; rfl
      rw [e]
      refine (take_good w0 w g bs m h hB (by omega)).mono ?_
      rintro e w' ⟨v, rfl, h1, h2, h3, h4⟩
      exact ⟨v, rfl, h1, h2, h3, h4⟩
    · have e : takeO (some bs) n = ([], none) := by simp only [takeO]; rw [if_neg hn]
      rw [e]
      refine (take_bad w0 w g true false bs n h hB (fun h => hn h.2.2)).mono ?_
      rintro e w' ⟨v, rfl, h1, h2, h3, h4⟩
      exact ⟨v, rfl, h1, ⟨_, _, _, rfl, h2⟩, h3, h4⟩
  | none =>
    obtain ⟨m, f, bs, e, h⟩ := h
    refine (take_bad w0 w g m f bs n h hB (fun h => by obtain ⟨rfl, rfl, _⟩ := h; cases e)).mono ?_
    rintro e w' ⟨v, rfl, h1, h2, h3, h4⟩
    exact ⟨v, rfl, h1, ⟨_, _, _, by cases m <;> rfl, h2⟩, h3, h4⟩
theorem newO (A0 : Option Addr) (c0 : Nat) (l0 : List Int) (w : World) (hr0 : Rb w A0 l0) (hc0 : l0.length ≤ c0) (hl : l0.length < 140737488355328) (hu : U8 l0) :
    Calls Try.prog 49 #[.slice A0 l0.length c0] w fun e w' => ∃ g : Nat, e = .returned (.pointer (some ⟨g, 0, none⟩)) ∧ RdO w w' g (some l0) ∧ Below w.heap.size w w' := new_ A0 c0 l0 w hr0 hc0 hl hu
end Go.Proofs.Ytgohmganimamcaa.Tlv
/- term.shapeOf, bytes.Clone in the printed functions' form. -/
namespace Go.Proofs.Ytgohmganimamcaa.PZ
set_option linter.unusedVariables false
open Go.RowKit Go.Proofs.YtgohmganimamcaaW.PrintWords Go.Proofs.Ytgohmganimamcaa.Term
def term_shapeOf.f (a0 : Int) : Option (Bool × Bool × Bool × Int) := some (thereB a0, numT a0, datT a0, (kidT a0 : Int))
theorem term_shapeOf.calls (a0 : Int) (r1 : Bool) (r2 : Bool) (r3 : Bool) (r4 : Int) (w : World) (h : term_shapeOf.f a0 = some (r1, r2, r3, r4)) : Calls Try.prog 43 #[.int .i64 a0] w fun e w' => e = .returned (.agg #[.bool r1, .bool r2, .bool r3, .int .i64 r4]) ∧ Below w.heap.size w w' := by
  unfold term_shapeOf.f at h
  simp only [Option.some.injEq, Prod.mk.injEq] at h
  obtain ⟨rfl, rfl, rfl, rfl⟩ := h
  exact shape_c a0 w
def bytes_Clone.f (l0 : List Int) : Option (List Int) := if l0.length < 140737488355328 then some l0 else none
theorem bytes_Clone.calls (A0 : Option Addr) (c0 : Nat) (l0 : List Int) (r : List Int) (w : World) (hr0 : Kd.C (Kd.int .u8) w A0 l0.length l0) (hc0 : l0.length ≤ c0) (h : bytes_Clone.f l0 = some r) :
    Calls Try.prog 63 #[.slice A0 l0.length c0] w fun e w' => ∃ v0_ : Value, e = .returned (v0_) ∧ Kd.R (Kd.int .u8) 5 w' w.heap.size (fun _ => True) v0_ r ∧ Below w.heap.size w w' := by
  unfold bytes_Clone.f at h
  split at h
  · next hc =>
    obtain rfl := Option.some.inj h
    exact Tlv.clone A0 c0 l0 w hr0 hc0 hc
  · cases h
end Go.Proofs.Ytgohmganimamcaa.PZ
