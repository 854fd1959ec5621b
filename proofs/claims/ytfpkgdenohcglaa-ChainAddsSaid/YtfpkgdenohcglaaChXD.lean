/- Own and printed texts, laid together. -/
import Derived.Test.YtfpkgdenohcglaaChXC
import Derived.Lib.SliceRun
import Derived.Laws.CopyRow
import Derived.Test.YtfpkgdenohcglaaChXB
import Derived.WalkSpells
/- Rows of entries of one's own: their cells alone are owned; what they lead to is only read. -/
namespace Go.Proofs.Ytfpkgdenohcglaa.Chn
set_option linter.unusedVariables false
set_option linter.unusedSimpArgs false
open Go.RowKit Go.Proofs.Ytfpkgdenohcglaa.Base Go.Proofs.Ytfpkgdenohcglaa.TlvPlain Go.Proofs.Ytfpkgdenohcglaa.ShaPlain Go.Proofs.Ytfpkgdenohcglaa.Sha Go.Proofs.Ytfpkgdenohcglaa.Com Go.Proofs.Ytfpkgdenohcglaa.Aid Go.Proofs.YtfpkgdenohcglaaW.PrintWords Go.Proofs.YtfpkgdenohcglaaW.PrintLast Go.Proofs.YtfpkgdenohcglaaW.PrintMore
abbrev KW : Kd (List Value) := Kd.raw 68
abbrev RawOk (x cs : List Value) : Prop := cs = x ∧ cs.length = 68 ∧ ∀ u ∈ cs, u.oneCell' = true
theorem info_ent3 : (Try.prog.info? 27).map (fun i => (i.zero, i.size, i.bytes)) = some (some (.agg Try.zeroCells27), 68, 112) := by kernel_rfl
def Rw (w : World) (base : Nat) (v : Value) (l : List Ent) : Prop :=
  ∃ rows : List (List Value), rows.length = l.length ∧ KW.R 27 w base (fun _ => True) v rows ∧ ∀ (j : Nat) (x : Ent) (c : List Value), l[j]? = some x → rows[j]? = some c → DEnt.K w x c
theorem Rw.below {w w' : World} {base : Nat} {v : Value} {l : List Ent} (h : Rw w base v l) (hb : Below w.heap.size w w') : Rw w' base v l := by
  obtain ⟨rows, hl, hR, hK⟩ := h
  exact ⟨rows, hl, Kd.R_below hR hb, fun j x c hx hc => DEnt.K_below hb (hK j x c hx hc)⟩
theorem Rw.lower {w : World} {base base' : Nat} {v : Value} {l : List Ent} (h : Rw w base v l) (hb : base' ≤ base) : Rw w base' v l := by
  obtain ⟨rows, hl, hR, hK⟩ := h
  exact ⟨rows, hl, Kd.R_lower hR hb, hK⟩
theorem Rw.nil (w : World) (base : Nat) : Rw w base (.slice none 0 0) [] := ⟨[], rfl, Kd.R_nil _ _ _ _ _, fun j x c hx => by simp at hx⟩
theorem re_of_raw {w : World} {A : Option Addr} {l : List Ent} {rows : List (List Value)} (hl : rows.length = l.length) (hC : KW.C w A rows.length rows)
    (hK : ∀ (j : Nat) (x : Ent) (c : List Value), l[j]? = some x → rows[j]? = some c → DEnt.K w x c) : Re w A l := by
  rw [hl] at hC
  refine ⟨rfl, hC.2.1, fun hp => ?_⟩
  obtain ⟨ad, he, hcell⟩ := hC.2.2 hp
  refine ⟨ad, he, fun j p hj => ?_⟩
  have hjl : j < rows.length := by have := (List.getElem?_eq_some_iff.1 hj).1; omega
  obtain ⟨c', hcl, hk, hcc⟩ := hcell j _ (List.getElem?_eq_getElem hjl)
  have hq := hK j p _ hj (List.getElem?_eq_getElem hjl)
  refine ⟨c', hcl, ?_, hcc⟩
  rw [show c' = rows[j] from hk.1]
  exact hq
theorem Rw.reads {w : World} {base : Nat} {v : Value} {l : List Ent} (h : Rw w base v l) : ∃ A c, v = .slice A l.length c ∧ l.length ≤ c ∧ Re w A l := by
  obtain ⟨rows, hl, hR, hK⟩ := h
  obtain ⟨A, c, hv, hc, hC⟩ := Kd.R_reads hR
  exact ⟨A, c, by rw [hv, hl], by omega, re_of_raw hl hC hK⟩
theorem rows_of {w : World} {A : Option Addr} {l : List Ent} (h : Re w A l) :
    ∃ rows : List (List Value), rows.length = l.length ∧ ReadsRow RawOk 68 w A l.length rows ∧ ∀ (j : Nat) (x : Ent) (c : List Value), l[j]? = some x → rows[j]? = some c → DEnt.K w x c :=
  Kd.reads_raw h (fun x c hk => ⟨DEnt.K_len hk, DEnt.K_one hk⟩)
/-- A copy of entries: its cells lead to what came. -/
abbrev RetC (w : World) (l : List Ent) : Ending → World → Prop := fun e w' => ∃ (v : Value) (rows : List (List Value)), e = .returned v ∧ rows.length = l.length ∧ KW.R 27 w' w.heap.size (fun _ => True) v rows ∧ (∀ (j : Nat) (x : Ent) (c : List Value), l[j]? = some x → rows[j]? = some c → DEnt.K w x c) ∧ Below w.heap.size w w'
abbrev RetE (w : World) (l : List Ent) : Ending → World → Prop := fun e w' => ∃ v, e = .returned v ∧ Rw w' w.heap.size v l ∧ Below w.heap.size w w'
set_option maxHeartbeats 4000000 in
set_option maxRecDepth 100000 in
theorem eclone_c (l : List Ent) (m : Nat) (hl : l.length = m) (hm : m ≤ 100000) (A : Option Addr) (c : Nat) (hc : m ≤ c) (w : World) (hr : Re w A l) :
    Calls Try.prog 53 #[.slice A m c] w (RetC w l) := by
  unfold RetC
  have hq := fun (n c : Nat) => Lib.run_eql_slice_nil (P := Try.prog) w 22 27 A n c 0 0 Try.underlying22
  cases A with
  | none =>
    have hm0 : m = 0 := by
      rcases Nat.eq_zero_or_pos m with h | h
      · exact h
      · obtain ⟨ad, P, C, B, cb, h1, _⟩ := re_at hr 0 (by omega)
        cases h1
    subst hm0
    have hf : l = [] := List.length_eq_zero_iff.1 hl
    subst hf
    clear hl hm hc hr
    go_enter Try.func53, Try.ntmps53
    go_wp2_with (fail)
    go_ret
    exact ⟨_, [], rfl, rfl, Kd.R_nil _ _ _ _ _, fun j x c hx => by simp at hx, Below.refl _ _⟩
  | some ad =>
    obtain ⟨rows, hrl, hrr, hrk⟩ := rows_of hr
    have HR := Aside0.mk hrr
    have HL := Aside0.mk hl
    have HM := Aside0.mk hm
    have HRL := Aside0.mk hrl
    have HK := Aside0.mk hrk
    clear hl hm hc hr hrr hrl hrk
    go_enter Try.func53, Try.ntmps53
    have HB := Aside0.mk (Below.refl w.heap.size w)
    go_wp2_with (first
      | ((with_reducible refine gate_dst (N := 5) rfl ?_); refine Kd.R_lit KW _ 27 ?hg (N := 5) ?hd (xs := ([] : List (List Value))) (inner := []) (ok := fun _ => True) (okp := fun _ => True) ?hr ?hp (fun _ hk => hk) trivial (Below.refl _ _) (Nat.le_refl _) (by simp) ?_; (case hd => rfl); (case hg => rfl); (case hr => first | (go_simp; done) | (go_simp; rfl)); (case hp => exact (Reps.none _ _)); intro v255 w3 ho4 hb hg_ hnew_; clear hg_ hnew_; have n0_ := Aside0.mk (Kd.R_lower ho4 (below_size HB.out)); have n1_ := Aside0.mk (below_step HB.out hb); clear HB; have HO := n0_; have HB := n1_; clear n0_ n1_; clear hb ho4)
      | ((with_reducible refine gate_builtin (b := .append) (xs := #[.tmp 5, .tmp 6]) rfl ?_); at_builtin; refine Kd.R_append_rows KW (Rr := RawOk) (w0 := w) w.heap.size rfl (.tmp 5) (.tmp 6) 22 27 (.agg Try.zeroCells27) 112 rfl Try.underlying22 info_ent3 rfl (by decide) (by omega) v255 [] rows _ m c (fun _ => True) (fun _ => False) rfl rfl HO.out (by have h := ReadsRow.imp_ HR.out HB.out (fun _ _ hp => hp); rw [HL.out] at h; exact h) (fun _ _ h => h) (fun _ h => h.elim) (fun _ _ => trivial) HB.out (below_size HB.out) (by have := HM.out; simp; omega) ?_; intro v258 w5 ho hb hg hat; have n0_ := Aside0.mk (hb); have n1_ := Aside0.mk (ho); clear HB; clear HO; have HB := n0_; have HO := n1_; clear n0_ n1_; clear ho hb hg hat))
    go_ret
    exact ⟨_, rows, rfl, HRL.out, HO.out, HK.out, HB.out⟩
section
variable {ops : Array Oper} {rest : List Oper} {o : Oper} {a : Act} {Q : Exit → Act → World → Prop}
/-- make([]Entry, m, m + 1). -/
theorem wpList_make_e {w : World} (hgd : o.guard = none) (x y : Operand) (ho : o.op = .makeSlice 22 x y) (m : Nat) (hm : m ≤ 100000) (hx : a.eval x = .int .i64 m) (hy : a.eval y = .int .i64 ((m : Int) + 1))
    (h : ∀ zs : List Value, zs.length = (m + 1) * 68 → wpList Try.prog ops Q rest (a.put o.dst (.slice (some ⟨w.heap.size, 0, none⟩) m (m + 1))) (w.alloc (.cells zs.toArray 27))) : wpList Try.prog ops Q (o :: rest) a w := by
  obtain ⟨i, hi, hz, hs, hb⟩ := info_parts info_ent3
  have hrun := run_make (P := Try.prog) w 22 27 i (.agg Try.zeroCells27) Try.underlying22 hi hz .i64 .i64 (m : Int) ((m : Int) + 1) (by omega) (by omega) (by rw [hb]; omega) (by omega)
  rw [hs, Int.toNat_natCast, show ((m : Int) + 1).toNat = m + 1 by omega] at hrun
  refine wpList_plain hgd fun K hK => ?_
  have h2 := h (madeCells (Value.agg Try.zeroCells27).cells ((m + 1) * 68)).toList (by rw [Array.length_toList, size_madeCells])
  rw [Array.toArray_toList] at h2
  unfold Oper.wp execOp
  simp only [ho, hx, hy, hrun, Sem.run_bind, Result.andThen_ok]
  exact hK _ _ h2
theorem run_copy_e (w : World) (ty : TypeId) (g m dCap : Nat) (sd : Addr) (sCap : Nat) (cur : Array Value) (t : TypeId) (cs : List Value)
    (hg : w.heap[g]? = some (.cells cur t (0, 0))) (hn : cs.length = m * 68)
    (hsrc : ∀ j v, cs[j]? = some v → w.cell? (sd.add j) = some v) (hfit : cs.length ≤ cur.size) (h1 : ∀ v ∈ cs, v.oneCell' = true) :
    (Builtin.copy_ #[22, 22] ty #[.slice (some ⟨g, 0, none⟩) m dCap, .slice (some sd) m sCap]).run Try.prog w =
      .ok (goInt (m : Int)) (w.setRow g (cs ++ cur.toList.drop cs.length).toArray) := by
  have hl := run_loadCells_list (P := Try.prog) w sd cs hsrc
  have hst := run_storeCells_at Try.prog g 0 t cs 0 cur w hg (by simpa using hfit) h1
  obtain ⟨i, hi, hz, hs, hb⟩ := info_parts info_ent3
  rw [hn] at hl
  simp [Builtin.copy_, run_underlying Try.underlying22, Builtin.lenOf, Builtin.firstCells, sizeOf, typeInfo, hi, hs, hl, hst]
theorem run_copy_e0 (w : World) (ty : TypeId) (d s : Option Addr) (dCap sCap : Nat) :
    (Builtin.copy_ #[22, 22] ty #[.slice d 0 dCap, .slice s 0 sCap]).run Try.prog w = .ok (goInt 0) w := by
  have hl : ∀ (x : Addr), (loadCells x 0).run Try.prog w = .ok #[] w := fun x => by simpa using run_loadCells_list (P := Try.prog) w x [] (by simp)
  obtain ⟨i, hi, hz, hs, hb⟩ := info_parts info_ent3
  cases d <;> cases s <;> simp [Builtin.copy_, run_underlying Try.underlying22, Builtin.lenOf, Builtin.firstCells, sizeOf, typeInfo, hi, storeCells, hl]
/-- copy(out, l): out's cells, behind them what lay there. -/
theorem wpList_copy_e {w w0 : World} (hgd : o.guard = none) (d s : Operand) (ho : o.op = .call { callee := .builtin .copy, args := #[d, s], argTypes := #[22, 22] })
    (g m c : Nat) (A : Option Addr) (hd : a.eval d = .slice (some ⟨g, 0, none⟩) m (m + 1)) (hs : a.eval s = .slice A m c) (hm : m ≤ 100000)
    (cur : List Value) (hg : w.heap[g]? = some (.cells cur.toArray 27 (0, 0))) (hcur : cur.length = (m + 1) * 68) (rows : List (List Value)) (hrl : rows.length = m) (HR : ReadsRow RawOk 68 w A m rows)
    (base : Nat) (hbg : base ≤ g) (HB : Below base w0 w)
    (h : ∀ w', KW.R 27 w' base (fun _ => True) (.slice (some ⟨g, 0, none⟩) m (m + 1)) rows → Below base w0 w' → (∀ k, k ≠ g → w'.heap[k]? = w.heap[k]?) → wpList Try.prog ops Q rest (a.put o.dst (goInt (m : Int))) w') : wpList Try.prog ops Q (o :: rest) a w := by
  refine wpList_plain hgd fun K hK => ?_
  rcases Nat.eq_zero_or_pos m with h0 | hp
  · subst h0
    have hre : rows = [] := List.length_eq_zero_iff.1 hrl
    subst hre
    have hrun := run_copy_e0 w o.type (some ⟨g, 0, none⟩) A (0 + 1) c
    have h2 := h w ⟨fun _ _ => trivial, [], ⟨rfl, Or.inr ⟨g, 0 + 1, cur.toArray, rfl, hbg, hg, by show 0 ≤ 0 + 1; omega, by decide, by show cur.toArray.size = (0 + 1) * 68; simp [hcur], by show cur.toArray.toList.take (0 * 68) = []; simp⟩⟩, Reps.none _ _⟩ HB (fun _ _ => rfl)
    unfold Oper.wp execOp
    simp only [ho, resolve, invoke, builtin, Sem.run_bind, Sem.run_pure, Result.andThen_ok, List.map_toArray, List.map_cons, List.map_nil, hd, hs, hrun]
    exact hK _ _ h2
  · obtain ⟨sd, rfl, _⟩ := HR.2.2 hp
    obtain ⟨inner, hri, hci⟩ := ReadsRow.inner_ HR
    have hil : inner.length = m * 68 := by rw [hri.1, hrl]
    have hone : ∀ v ∈ inner, v.oneCell' = true := by
      intro v hv
      obtain ⟨j, hj, rfl⟩ := List.mem_iff_getElem.1 hv
      have hj2 : j / 68 < rows.length := by rw [hrl]; omega
      have hq := (hri.2 (j / 68) _ (List.getElem?_eq_getElem hj2)).2.2
      refine hq _ (List.mem_iff_getElem?.2 ⟨j % 68, ?_⟩)
      rw [List.getElem?_take, if_pos (Nat.mod_lt _ (by decide)), List.getElem?_drop, show j / 68 * 68 + j % 68 = j by omega]
      exact List.getElem?_eq_getElem hj
    have hrun := run_copy_e w o.type g m (m + 1) sd c cur.toArray 27 inner hg hil hci (by simp [hil, hcur]; omega) hone
    have hset := setRow_heap w g cur.toArray (inner ++ cur.toArray.toList.drop inner.length).toArray _ _ hg
    have h2 := h (w.setRow g (inner ++ cur.toArray.toList.drop inner.length).toArray)
      ⟨fun _ _ => trivial, inner, ⟨by rw [hil, hrl]; rfl, Or.inr ⟨g, m + 1, (inner ++ cur.toArray.toList.drop inner.length).toArray, by rw [hrl], hbg, hset, by omega, by simp [maxLen]; omega, by show (inner ++ cur.toArray.toList.drop inner.length).toArray.size = (m + 1) * 68; simp [hil, hcur]; omega, by show (inner ++ cur.toArray.toList.drop inner.length).toArray.toList.take (rows.length * 68) = inner; rw [hrl, ← hil]; simp⟩⟩, hri⟩
      (below_setRow HB hbg _) (fun k hk => setRow_other _ _ _ _ hk)
    unfold Oper.wp execOp
    simp only [ho, resolve, invoke, builtin, Sem.run_bind, Sem.run_pure, Result.andThen_ok, List.map_toArray, List.map_cons, List.map_nil, hd, hs, hrun]
    exact hK _ _ h2
end
end Go.Proofs.Ytfpkgdenohcglaa.Chn
/- Entries that are built. -/
namespace Go.Proofs.Ytfpkgdenohcglaa.Chn
set_option linter.unusedVariables false
set_option linter.unusedSimpArgs false
open Go.RowKit Go.Proofs.Ytfpkgdenohcglaa.Base Go.Proofs.Ytfpkgdenohcglaa.TlvPlain Go.Proofs.Ytfpkgdenohcglaa.ShaPlain Go.Proofs.Ytfpkgdenohcglaa.Sha Go.Proofs.Ytfpkgdenohcglaa.Com Go.Proofs.Ytfpkgdenohcglaa.Aid Go.Proofs.YtfpkgdenohcglaaW.PrintWords Go.Proofs.YtfpkgdenohcglaaW.PrintLast Go.Proofs.YtfpkgdenohcglaaW.PrintMore
theorem list32 (l : List Value) (h : l.length = 32) : l = (List.range 32).map (fun i => l.getD i undef) := by
  apply List.ext_getElem?
  intro i
  rw [List.getElem?_map]
  by_cases hi : i < 32
  · rw [List.getElem?_range hi, List.getElem?_eq_getElem (by omega)]
    simp [List.getD_eq_getElem?_getD, List.getElem?_eq_getElem (show i < l.length by omega)]
  · rw [List.getElem?_eq_none (by omega), List.getElem?_eq_none (by simp; omega)]
    rfl
theorem built_new (n sl : Int) (f g : Nat → Value) (A : Option Addr) (k c : Nat) :
    Try.prog.built 27 [(0, .int .i64 n), (1, .agg ((List.range 32).map f).toArray), (2, .agg ((List.range 32).map g).toArray), (3, .int .u64 sl), (4, .slice A k c)] =
      some (cellsE n ((List.range 32).map f) ((List.range 32).map g) sl A k c false).toArray := by kernel_rfl
theorem built_cut (n : Int) (f g : Nat → Value) :
    Try.prog.built 27 [(0, .int .i64 n), (1, .agg ((List.range 32).map f).toArray), (2, .agg ((List.range 32).map g).toArray), (5, .bool true)] =
      some (cellsE n ((List.range 32).map f) ((List.range 32).map g) 0 none 0 0 true).toArray := by kernel_rfl
theorem run_new (w : World) (n sl : Int) (P C : List Value) (hP : P.length = 32) (hC : C.length = 32) (A : Option Addr) (k c : Nat) :
    (Instr.build 27 #[(0, .int .i64 n), (1, .agg P.toArray), (2, .agg C.toArray), (3, .int .u64 sl), (4, .slice A k c)]).run Try.prog w = .ok (.agg (cellsE n P C sl A k c false).toArray) w := by
  refine run_build w _ _ _ ?_
  have h := built_new n sl (fun i => P.getD i undef) (fun i => C.getD i undef) A k c
  rw [← list32 P hP, ← list32 C hC] at h
  exact h
theorem run_cut (w : World) (n : Int) (P C : List Value) (hP : P.length = 32) (hC : C.length = 32) :
    (Instr.build 27 #[(0, .int .i64 n), (1, .agg P.toArray), (2, .agg C.toArray), (5, .bool true)]).run Try.prog w = .ok (.agg (cellsE n P C 0 none 0 0 true).toArray) w := by
  refine run_build w _ _ _ ?_
  have h := built_cut n (fun i => P.getD i undef) (fun i => C.getD i undef)
  rw [← list32 P hP, ← list32 C hC] at h
  exact h
section
variable {ops : Array Oper} {rest : List Oper} {o : Oper} {a : Act} {Q : Exit → Act → World → Prop}
theorem wpList_new {w : World} (hgd : o.guard = none) (x0 x1 x2 x3 x4 : Operand) (ho : o.op = .build 27 #[(0, x0), (1, x1), (2, x2), (3, x3), (4, x4)]) (n sl : Int) (P C : List Value) (hP : P.length = 32) (hC : C.length = 32) (A : Option Addr) (k c : Nat)
    (h0 : a.eval x0 = .int .i64 n) (h1 : a.eval x1 = .agg P.toArray) (h2 : a.eval x2 = .agg C.toArray) (h3 : a.eval x3 = .int .u64 sl) (h4 : a.eval x4 = .slice A k c)
    (h : wpList Try.prog ops Q rest (a.put o.dst (.agg (cellsE n P C sl A k c false).toArray)) w) : wpList Try.prog ops Q (o :: rest) a w := by
  refine wpList_plain hgd fun K hK => ?_
  have hp : (#[((0 : Nat), x0), (1, x1), (2, x2), (3, x3), (4, x4)].map fun (i, y) => (i, a.eval y)) = #[(0, .int .i64 n), (1, .agg P.toArray), (2, .agg C.toArray), (3, .int .u64 sl), (4, .slice A k c)] := by simp [h0, h1, h2, h3, h4]
  unfold Oper.wp execOp
  simp only [ho, hp, Sem.run_bind, run_new w n sl P C hP hC A k c, Result.andThen_ok]
  exact hK _ _ h
/-- append(v, x)'s row of one entry. -/
theorem run_ent1 (w : World) (cs : List Value) (hc : cs.length = 68) : (Instr.buildSlice 22 1 #[(0, .agg cs.toArray)]).run Try.prog w = .ok (.slice (some ⟨w.heap.size, 0, none⟩) 1 1) (w.alloc (.cells cs.toArray 27)) := by
  obtain ⟨i, hi, hz, hs, hb⟩ := info_parts info_ent3
  have hf := Great.fill_whole (s := 68) (by decide) [Value.agg cs.toArray] ((Array.range (1 * 68)).map ((Value.agg Try.zeroCells27).cells[· % (Value.agg Try.zeroCells27).cells.size]!)) (fun v hv => by
    rw [List.mem_singleton.1 hv]; simp [Value.cells, hc]) (by simp)
  refine run_buildSlice w 22 27 1 _ _ i (.agg Try.zeroCells27) Try.underlying22 hi hz (by rw [hs]; decide) (by rw [hs]; decide) ?_
  rw [hs]
  refine Eq.trans ?_ (hf.trans ?_)
  · rfl
  · simp [Value.cells]
theorem wpList_ent1 {w : World} (hgd : o.guard = none) (x : Operand) (ho : o.op = .buildSlice 22 1 #[(0, x)]) (cs : List Value) (hx : a.eval x = .agg cs.toArray) (hc : cs.length = 68)
    (h : wpList Try.prog ops Q rest (a.put o.dst (.slice (some ⟨w.heap.size, 0, none⟩) 1 1)) (w.alloc (.cells cs.toArray 27))) : wpList Try.prog ops Q (o :: rest) a w := by
  refine wpList_plain hgd fun K hK => ?_
  have hp : (#[((0 : Nat), x)].map fun (i, y) => (i, a.eval y)) = #[(0, .agg cs.toArray)] := by simp [hx]
  unfold Oper.wp execOp
  simp only [ho, hp, Sem.run_bind, run_ent1 w cs hc, Result.andThen_ok]
  exact hK _ _ h
end
section
variable {o : Oper} {a : Act} {Q : Exit → Act → World → Prop} {K : Act → World → Prop}
theorem wp_ent1 {w : World} (x : Operand) (ho : o.op = .buildSlice 22 1 #[(0, x)]) (cs : List Value) (hx : a.eval x = .agg cs.toArray) (hc : cs.length = 68)
    (h : K (a.put o.dst (.slice (some ⟨w.heap.size, 0, none⟩) 1 1)) (w.alloc (.cells cs.toArray 27))) : Oper.wp Try.prog o a w K Q := by
  have hp : (#[((0 : Nat), x)].map fun (i, y) => (i, a.eval y)) = #[(0, .agg cs.toArray)] := by simp [hx]
  unfold Oper.wp execOp
  simp only [ho, hp, Sem.run_bind, run_ent1 w cs hc, Result.andThen_ok]
  exact h
theorem wp_cut {w : World} (x0 x1 x2 x5 : Operand) (ho : o.op = .build 27 #[(0, x0), (1, x1), (2, x2), (5, x5)]) (n : Int) (P C : List Value) (hP : P.length = 32) (hC : C.length = 32)
    (h0 : a.eval x0 = .int .i64 n) (h1 : a.eval x1 = .agg P.toArray) (h2 : a.eval x2 = .agg C.toArray) (h5 : a.eval x5 = .bool true)
    (h : K (a.put o.dst (.agg (cellsE n P C 0 none 0 0 true).toArray)) w) : Oper.wp Try.prog o a w K Q := by
  have hp : (#[((0 : Nat), x0), (1, x1), (2, x2), (5, x5)].map fun (i, y) => (i, a.eval y)) = #[(0, .int .i64 n), (1, .agg P.toArray), (2, .agg C.toArray), (5, .bool true)] := by simp [h0, h1, h2, h5]
  unfold Oper.wp execOp
  simp only [ho, hp, Sem.run_bind, run_cut w n P C hP hC, Result.andThen_ok]
  exact h
end
/-- The new entry. -/
abbrev newE (l : List Ent) (salt : Int) (pay : List Int) : Ent := ((l.length : Int), headT l, comH salt pay, salt, pay, false)
theorem addT_eq (l : List Ent) (salt : Int) (pay : List Int) : addT l salt pay = l ++ [newE l salt pay] := rfl
/-- A row with one more entry, the row of cells grown by that entry's cells. -/
theorem Rw.snoc {w0 W w' : World} {base : Nat} {v : Value} {l : List Ent} {rows : List (List Value)} {x : Ent} {cs : List Value} (hl : rows.length = l.length) (hR : KW.R 27 w' base (fun _ => True) v (rows ++ [cs]))
    (h0 : ∀ (j : Nat) (x : Ent) (c : List Value), l[j]? = some x → rows[j]? = some c → DEnt.K w0 x c) (hb0 : Below w0.heap.size w0 w') (hx : DEnt.K W x cs) (hb : Below W.heap.size W w') : Rw w' base v (l ++ [x]) := by
  refine ⟨rows ++ [cs], by simp [hl], hR, fun j y c hy hc => ?_⟩
  rcases Nat.lt_or_ge j l.length with h | h
  · rw [List.getElem?_append_left h] at hy
    rw [List.getElem?_append_left (by omega)] at hc
    exact DEnt.K_below hb0 (h0 j y c hy hc)
  · rw [List.getElem?_append_right h] at hy
    rw [List.getElem?_append_right (by omega), hl] at hc
    rcases hk : j - l.length with _ | k
    · rw [hk] at hy hc
      simp only [List.getElem?_cons_zero, Option.some.injEq] at hy hc
      rw [← hy, ← hc]
      exact DEnt.K_below hb hx
    · rw [hk] at hy
      simp at hy
end Go.Proofs.Ytfpkgdenohcglaa.Chn
/- The walks of package tlv: what each of its functions does to memory. -/
namespace Go.Proofs.Ytfpkgdenohcglaa.Tlv
open Go.Proofs.Ytfpkgdenohcglaa.Base Go.Proofs.Ytfpkgdenohcglaa.TlvPlain Go.RowKit Go.Proofs.YtfpkgdenohcglaaW.PrintWords Go.Proofs.YtfpkgdenohcglaaW.PrintLast Go.Proofs.YtfpkgdenohcglaaW.PrintMore

/-- A reader at block g: made, failed, and the bytes that are left. -/
def Rdr (w0 W : World) (g : Nat) (made failed : Bool) (bs : List Int) : Prop :=
  w0.heap.size ≤ g ∧ ∃ A c, W.heap[g]? = some (.cells #[.bool made, .bool failed, .slice A bs.length c] 115 (0, 0)) ∧ bs.length ≤ c ∧ Rb W A bs ∧ bs.length < 140737488355328 ∧ U8 bs ∧ ∀ ad, A = some ad → ad.block < g
theorem Rdr.lower {w0 w1 W : World} {g : Nat} {m f : Bool} {bs : List Int} (h : Rdr w1 W g m f bs) (hs : w0.heap.size ≤ w1.heap.size) : Rdr w0 W g m f bs := ⟨Nat.le_trans hs h.1, h.2⟩
theorem cells_no_int {m f : Bool} {A : Option Addr} {n c : Nat} (i : Nat) (v : Value) (h : (#[Value.bool m, .bool f, .slice A n c] : Array Value)[i]? = some v) (k : Int) : v ≠ .int .u8 k := by
  match i, h with
  | 0, h => cases h; simp
  | 1, h => cases h; simp
  | 2, h => cases h; simp
theorem Rdr.below {w0 W W1 : World} {g : Nat} {m f : Bool} {bs : List Int} (h : Rdr w0 W g m f bs) (hb : Below W.heap.size W W1) : Rdr w0 W1 g m f bs := by
  obtain ⟨h0, A, c, h1, h2, h3, h4⟩ := h
  exact ⟨h0, A, c, (hb.block g (blk_lt h1)).trans h1, h2, Kd.C_below h3 hb, h4⟩
/-- Where another block alone was written, in which no numbers lie. -/
theorem Rdr.keep {w0 W W1 : World} {g g' : Nat} {m f : Bool} {bs : List Int} (h : Rdr w0 W g m f bs) (hk : KeepBut W W1 g' none) (hne : g ≠ g') {T : Nat} {cs : Array Value} (hb : W.heap[g']? = some (.cells cs T (0, 0))) (hcs : ∀ i : Nat, ∀ v, cs[i]? = some v → ∀ n, v ≠ Value.int .u8 n) : Rdr w0 W1 g m f bs := by
  obtain ⟨h0, A, c, h1, h2, h3, h4⟩ := h
  exact ⟨h0, A, c, hk.blk h1 hne (by simp), h2, reads_keep h3 hk (reads_ne hb hcs h3), h4⟩
theorem Rdr.grown {w0 W W1 : World} {g : Nat} {m f : Bool} {bs : List Int} {row : Option Nat} (h : Rdr w0 W g m f bs) (hg : W.grownBy W1 row) (hr : ∀ b, row = some b → g < b) : Rdr w0 W1 g m f bs := by
  obtain ⟨h0, A, c, h1, h2, h3, h4⟩ := h
  have hne : some g ≠ row := fun e => Nat.lt_irrefl g (hr g e.symm)
  refine ⟨h0, A, c, blk_grown h1 hg hne, h2, ?_, h4⟩
  cases row with
  | none => exact reads_keep h3 (KeepBut.of_grown hg W.heap.size) (fun ad e _ => by have := h4.2.2 ad e; have := blk_lt h1; omega)
  | some q =>
    have hk : KeepBut W W1 q none := ⟨hg.size, fun i hi h1 _ => hg.block i hi (fun e => h1 (Option.some.inj e))⟩
    exact reads_keep h3 hk (fun ad e _ => by have := h4.2.2 ad e; have := hr q rfl; omega)
theorem Rdr.set {w0 W : World} {g : Nat} {m f : Bool} {bs : List Int} (h : Rdr w0 W g m f bs) (f' : Bool) : Rdr w0 (W.setCell ⟨g, 1, none⟩ (.bool f')) g m f' bs := by
  obtain ⟨h0, A, c, h1, h2, h3, h4⟩ := h
  exact ⟨h0, A, c, by simpa using blk_set h1 1 (.bool f'), h2, reads_keep h3 (keep_set _ _ _ _) (reads_ne h1 cells_no_int h3), h4⟩
theorem Rdr.cut {w0 W : World} {g : Nat} {m f : Bool} {bs cs : List Int} (h : Rdr w0 W g m f bs) {A' : Option Addr} {c' : Nat} (hc : cs.length ≤ c') (hr : Rb W A' cs) (hl : cs.length ≤ bs.length) (hu : U8 cs) (hbl : ∀ ad, A' = some ad → ad.block < g) : Rdr w0 (W.setCell ⟨g, 2, none⟩ (.slice A' cs.length c')) g m f cs := by
  obtain ⟨h0, A, c, h1, h2, h3, h4⟩ := h
  exact ⟨h0, A', c', by simpa using blk_set h1 2 (.slice A' cs.length c'), hc, reads_keep hr (keep_set _ _ _ _) (reads_ne h1 cells_no_int hr), Nat.lt_of_le_of_lt hl h4.1, hu, hbl⟩

set_option maxHeartbeats 800000 in
set_option maxRecDepth 100000 in
theorem clone (A0 : Option Addr) (c0 : Nat) (l0 : List Int) (w : World) (hr0 : Kd.C (Kd.int .u8) w A0 l0.length l0) (hc0 : l0.length ≤ c0) (hl : l0.length < 140737488355328) :
    Calls Try.prog 51 #[.slice A0 l0.length c0] w fun e w' => ∃ v : Value, e = .returned v ∧ Kd.R (Kd.int .u8) 5 w' w.heap.size (fun _ => True) v l0 ∧ Below w.heap.size w w' := by
  have hq := fun (n c : Nat) => Lib.run_eql_slice_nil (P := Try.prog) w 25 5 A0 n c 0 0 Try.underlying25
  have HR := Aside0.mk hr0
  have HL := Aside0.mk hl
  have HC := Aside0.mk hc0
  clear hr0 hl hc0
  cases A0 with
  | none =>
    have hz : l0 = [] := by
      have h := HR.out
      cases l0 with
      | nil => rfl
      | cons x xs => obtain ⟨ad, c, e, _⟩ := Kd.C_get h 0 0 (by omega) (by simp); cases e
    subst hz
    clear HR HL HC
    go_enter Try.func51, Try.ntmps51
    go_wp2
    go_ret
    exact ⟨_, rfl, Kd.R_nil _ _ _ _ _, Below.refl _ _⟩
  | some a =>
    have HB := Aside0.mk (Below.refl w.heap.size w)
    go_enter Try.func51, Try.ntmps51
    go_wp2_with (first
      | ((with_reducible refine gate_dst (N := 5) rfl ?_); refine Kd.R_lit (Kd.int .u8) _ 5 ?hg (N := 5) ?hd (xs := ([] : List Int)) (inner := []) (ok := fun _ => True) (okp := fun _ => True) ?hr ?hp (fun _ hk => hk) trivial (Below.refl _ _) (Nat.le_refl _) (by simp) ?_; (case hd => rfl); (case hg => rfl); (case hr => first | (go_simp; done) | (go_simp; rfl)); (case hp => exact (Reps.none _ _)); intro v255 w3 ho4 hb hg_ hnew_; clear hg_ hnew_; have n0_ := Aside0.mk (Kd.R_lower ho4 (below_size HB.out)); have n1_ := Aside0.mk (below_step HB.out hb); clear HB; have HO := n0_; have HB := n1_; clear n0_ n1_; clear hb ho4)
      | ((with_reducible refine gate_builtin (b := .append) (xs := #[.tmp 5, .tmp 6]) rfl ?_); at_builtin; refine Kd.R_append_rows (Kd.int .u8) (w0 := w) w.heap.size rfl (.tmp 5) (.tmp 6) 25 5 (.int .u8 0) 1 rfl Try.underlying25 info_u8 rfl (by decide) (by omega) v255 [] l0 _ _ _ (fun _ => True) (fun _ => False) rfl rfl HO.out (Kd.C_below HR.out HB.out) (fun _ _ h => h) (fun _ h => h.elim) (fun _ _ => trivial) HB.out (below_size HB.out) (by have := HL.out; simp; omega) ?_; intro v258 w5 ho hb hg hat; have n0_ := Aside0.mk (hb); have n1_ := Aside0.mk (ho); clear HB; clear HO; have HB := n0_; have HO := n1_; clear n0_ n1_; clear ho hb hg hat))
    go_ret
    exact ⟨_, rfl, HO.out, HB.out⟩

/-- A reader's state: the bytes that are left, or that it failed. -/
def RdO (w0 W : World) (g : Nat) (st : Option (List Int)) : Prop :=
  match st with
  | some bs => Rdr w0 W g true false bs
  | none => ∃ m f bs, (m && !f) = false ∧ Rdr w0 W g m f bs
theorem RdO.any {w0 W : World} {g : Nat} {st : Option (List Int)} (h : RdO w0 W g st) : ∃ m f bs, (m && !f) = st.isSome ∧ Rdr w0 W g m f bs := by
  cases st with
  | some bs => exact ⟨true, false, bs, rfl, h⟩
  | none => exact h
theorem RdO.below {w0 W W1 : World} {g : Nat} {st : Option (List Int)} (h : RdO w0 W g st) (hb : Below W.heap.size W W1) : RdO w0 W1 g st := by
  cases st with
  | some bs => exact Rdr.below h hb
  | none => obtain ⟨m, f, bs, e, h⟩ := h; exact ⟨m, f, bs, e, h.below hb⟩
theorem RdO.keep {w0 W W1 : World} {g g' : Nat} {st : Option (List Int)} (h : RdO w0 W g st) (hk : KeepBut W W1 g' none) (hne : g ≠ g') {T : Nat} {cs : Array Value} (hb : W.heap[g']? = some (.cells cs T (0, 0))) (hcs : ∀ i : Nat, ∀ v, cs[i]? = some v → ∀ n, v ≠ Value.int .u8 n) : RdO w0 W1 g st := by
  cases st with
  | some bs => exact Rdr.keep h hk hne hb hcs
  | none => obtain ⟨m, f, bs, e, h⟩ := h; exact ⟨m, f, bs, e, h.keep hk hne hb hcs⟩
theorem RdO.grown {w0 W W1 : World} {g : Nat} {st : Option (List Int)} {row : Option Nat} (h : RdO w0 W g st) (hg : W.grownBy W1 row) (hr : ∀ b, row = some b → g < b) : RdO w0 W1 g st := by
  cases st with
  | some bs => exact Rdr.grown h hg hr
  | none => obtain ⟨m, f, bs, e, h⟩ := h; exact ⟨m, f, bs, e, h.grown hg hr⟩
theorem RdO.lower {w0 w1 W : World} {g : Nat} {st : Option (List Int)} (h : RdO w1 W g st) (hs : w0.heap.size ≤ w1.heap.size) : RdO w0 W g st := by
  cases st with
  | some bs => exact Rdr.lower h hs
  | none => obtain ⟨m, f, bs, e, h⟩ := h; exact ⟨m, f, bs, e, h.lower hs⟩
theorem RdO.blk {w0 W : World} {g : Nat} {st : Option (List Int)} (h : RdO w0 W g st) : w0.heap.size ≤ g ∧ g < W.heap.size ∧ ∃ cs, W.heap[g]? = some (.cells cs 115 (0, 0)) ∧ ∀ i : Nat, ∀ v, cs[i]? = some v → ∀ n, v ≠ Value.int .u8 n := by
  obtain ⟨m, f, bs, _, h0, A, c, h1, _⟩ := h.any
  exact ⟨h0, blk_lt h1, _, h1, cells_no_int⟩
theorem RdO.u8 {w0 W : World} {g : Nat} {bs : List Int} (h : RdO w0 W g (some bs)) : U8 bs ∧ bs.length < 140737488355328 := by
  obtain ⟨_, _, _, _, _, _, h1, h2⟩ := (show Rdr w0 W g true false bs from h)
  exact ⟨h2.1, h1⟩
/-- What a call that is handed a reader leaves. -/
def Left (w0 w w' : World) (g : Nat) (st : Option (List Int)) : Prop := RdO w0 w' g st ∧ Below w0.heap.size w0 w' ∧ KeepBut w w' g none
theorem Left.trans {w0 w w1 w2 : World} {g : Nat} {s1 s2 : Option (List Int)} (h : Left w0 w w1 g s1) (k : Left w0 w1 w2 g s2) : Left w0 w w2 g s2 := ⟨k.1, k.2.1, h.2.2.trans k.2.2 (.inl rfl)⟩
theorem Left.refl {w0 w : World} {g : Nat} {st : Option (List Int)} (h : RdO w0 w g st) (hB : Below w0.heap.size w0 w) : Left w0 w w g st := ⟨h, hB, KeepBut.refl _ _ _⟩

end Go.Proofs.Ytfpkgdenohcglaa.Tlv
/- chain.Add. -/
namespace Go.Proofs.Ytfpkgdenohcglaa.Chn
set_option linter.unusedVariables false
set_option linter.unusedSimpArgs false
open Go.RowKit Go.Proofs.Ytfpkgdenohcglaa.Base Go.Proofs.Ytfpkgdenohcglaa.TlvPlain Go.Proofs.Ytfpkgdenohcglaa.ShaPlain Go.Proofs.Ytfpkgdenohcglaa.Sha Go.Proofs.Ytfpkgdenohcglaa.Com Go.Proofs.Ytfpkgdenohcglaa.Aid Go.Proofs.YtfpkgdenohcglaaW.PrintWords Go.Proofs.YtfpkgdenohcglaaW.PrintLast Go.Proofs.YtfpkgdenohcglaaW.PrintMore
set_option maxHeartbeats 4000000 in
set_option maxRecDepth 100000 in
theorem add_c (l : List Ent) (m : Nat) (hl : l.length = m) (hm : m ≤ 100000) (hu : Lu' l) (A : Option Addr) (c : Nat) (hc : m ≤ c) (salt : Int) (h0 : 0 ≤ salt) (h1 : salt ≤ 18446744073709551615) (pay : List Int) (hpu : U8 pay) (hpl : pay.length ≤ 100000)
    (B : Option Addr) (cb : Nat) (hcb : pay.length ≤ cb) (w : World) (hr : Re w A l) (hp : Rb w B pay) :
    Calls Try.prog 13 #[.slice A m c, .int .u64 salt, .slice B pay.length cb] w (RetE w (addT l salt pay)) := by
  unfold RetE
  obtain ⟨D, hD⟩ := sumC (headT l) (headT_len _)
  obtain ⟨E, hE⟩ := sumC (comH salt pay) (comH_len _ _)
  have HH := Aside0.mk (head_c l m hl (by omega) hu A c w hr)
  unfold Ret at HH
  rw [hD.v] at HH
  have HOF := Aside0.mk (fun W (hW : Below w.heap.size w W) => by
    have h2 := cof_c salt h0 h1 B cb pay W (Kd.C_below hp hW) hcb hpu hpl
    rw [← comH_eq, hE.v] at h2
    exact h2)
  have HCL := Aside0.mk (fun W (hW : Below w.heap.size w W) => Tlv.clone B cb pay W (Kd.C_below hp hW) hcb (by omega))
  obtain ⟨rows, hrl, hrr, hrk⟩ := rows_of hr
  have HR := Aside0.mk hrr
  have HRL := Aside0.mk hrl
  have HRK := Aside0.mk hrk
  have HD := Aside0.mk hD
  have HE := Aside0.mk hE
  have HL := Aside0.mk hl
  have HM := Aside0.mk hm
  have q0 : (m : Int) ≤ 100000 := by omega
  clear hl hm hu hc h0 h1 hpu hpl hcb hr hp hD hE hrl hrr hrk
  go_enter Try.func13, Try.ntmps13
  go_upto_region 2 with (first
    | (go_at_call 22; refine HH.out.mono ?_; rintro e w2 ⟨rfl, hb⟩; have HB2 := Aside0.mk hb; clear hb)
    | (go_at_call 50; refine (HOF.out _ HB2.out).mono ?_; rintro e w3 ⟨rfl, hb⟩; have HB3 := Aside0.mk (below_step HB2.out hb); clear hb)
    | (go_at_call 51; refine (HCL.out _ HB3.out).mono ?_; rintro e w4 ⟨v, rfl, ho, hb⟩; have HB4 := Aside0.mk (below_step HB3.out hb); obtain ⟨A4, c4, rfl, hc4, hr4⟩ := Kd.R_reads ho; have HC4 := Aside0.mk hc4; have HR4 := Aside0.mk hr4; clear ho hb hc4 hr4)
    | ((with_reducible refine gate_dst (N := 19) rfl ?_); refine wpList_new rfl (.tmp 10) (.tmp 12) (.tmp 15) (.tmp 16) (.tmp 18) rfl (m : Int) salt D E HD.out.lenC HE.out.lenC A4 pay.length c4 rfl rfl rfl rfl rfl ?_;
       have hC := (show EntC w4 (newE l salt pay) D E A4 c4 from ⟨HD.out, HE.out, HC4.out, HR4.out⟩);
       have HKE := Aside0.mk (ent_mk hC); have HXL := Aside0.mk hC.len; have HXO := Aside0.mk hC.one; have HXI := Aside0.mk hC.info; clear hC;
       rw [show cE (newE l salt pay) D E A4 c4 = cellsE (m : Int) D E salt A4 pay.length c4 false from by rw [← HL.out]] at HKE HXL HXO HXI;
       obtain ⟨X, hX⟩ : ∃ X, cellsE (m : Int) D E salt A4 pay.length c4 false = X := ⟨_, rfl⟩; rw [hX] at HKE HXL HXO HXI ⊢; clear hX;
       have HY := Aside0.mk (show (w4.alloc (.cells zE.toArray 27)).heap[w4.heap.size]? = some (.cells zE.toArray 27 (0, 0)) from blk_new _ _))
    | ((with_reducible refine gate_store (t := 27) (p := 7) (v := .tmp 19) rfl ?_); refine wpList_store_row rfl 27 (.tmp 7) (.tmp 19) rfl w4.heap.size X.toArray rfl rfl 27 zE.toArray HY.out (by rw [List.size_toArray]; exact HXI.out) (by rw [List.size_toArray, List.size_toArray, zE_len, HXL.out]) HXO.out ?_))
  have HX5 := Aside0.mk (setRow_heap (w4.alloc (.cells zE.toArray 27)) w4.heap.size zE.toArray X.toArray _ _ HY.out)
  have HB5 := Aside0.mk (show Below w4.heap.size w4 ((w4.alloc (.cells zE.toArray 27)).setRow w4.heap.size X.toArray) from below_setRow (below_alloc (Below.refl _ _) _) (Nat.le_refl _) _)
  obtain ⟨w5, hw5⟩ : ∃ V, (w4.alloc (.cells zE.toArray 27)).setRow w4.heap.size X.toArray = V := ⟨_, rfl⟩
  rw [hw5] at HX5 HB5
  rw [show (w4.alloc (.cells Try.zeroCells27 27)).setRow w4.heap.size X.toArray = w5 from hw5]
  clear hw5 HY
  have HS5 := Aside0.mk (show w4.heap.size < w5.heap.size from (Array.getElem?_eq_some_iff.1 HX5.out).1)
  go_wp2_with (first
    | (at_make; refine wpList_make_e rfl (.tmp 21) (.tmp 24) rfl m HM.out rfl rfl ?_; intro zs hzs; have HZS := Aside0.mk hzs; clear hzs)
    | ((with_reducible refine gate_builtin (b := .copy) (xs := #[.tmp 26, .tmp 27]) rfl ?_); refine wpList_copy_e (w0 := w4) rfl (.tmp 26) (.tmp 27) rfl w5.heap.size m c A rfl rfl HM.out zs (blk_new _ _) HZS.out rows (by rw [HRL.out, HL.out]) (by have h := ReadsRow.imp_ HR.out (below_step HB4.out (below_alloc HB5.out (.cells zs.toArray 27))) (fun _ _ hp => hp); rw [HL.out] at h; exact h) w4.heap.size (Nat.le_of_lt HS5.out) (below_alloc HB5.out _) ?_;
       intro w6 hR hb hk; have HR6 := Aside0.mk hR; have HB6 := Aside0.mk hb; have HX6 := Aside0.mk (atC_blk ((hk w4.heap.size (Nat.ne_of_lt HS5.out)).trans (blk_alloc HX5.out _))); clear hR hb hk)
    | ((with_reducible refine gate_dst (N := 30) rfl ?_); refine wpList_load_at rfl 27 (.tmp 7) rfl ⟨w4.heap.size, 0, none⟩ rfl X _ HX6.out Try.underlying27 rfl HXI.out ?_)
    | ((with_reducible refine gate_dst (N := 31) rfl ?_); refine wpList_ent1 rfl (.tmp 30) rfl X rfl HXL.out ?_)
    | ((with_reducible refine gate_builtin (b := .append) (xs := #[.tmp 29, .tmp 31]) rfl ?_); at_builtin; refine Kd.R_append KW (w0 := w4) w4.heap.size rfl (.tmp 29) (.tmp 31) 22 27 (.agg Try.zeroCells27) 112 rfl Try.underlying22 info_ent3 rfl (by decide) (by decide) _ rows X X (fun _ => True) (fun _ => False) rfl rfl ⟨rfl, HXL.out, fun u hu => by have h := HXO.out; rw [List.all_toArray, List.all_eq_true] at h; exact h u hu⟩ (fun _ h => h.elim) (fun _ _ => trivial) HR6.out HB6.out HB6.out.size (by rw [HRL.out, HL.out]; have := HM.out; omega) ?_; intro v7 w7 ho hb hg hat; have HO7 := Aside0.mk ho; have HB7 := Aside0.mk hb; clear ho hb hg hat))
  go_ret
  have hfin := Rw.snoc (x := newE l salt pay) (w0 := w) (W := w4) HRL.out HO7.out HRK.out (below_step HB4.out HB7.out) HKE.out HB7.out
  exact ⟨_, rfl, hfin.lower HB4.out.size, below_step HB4.out HB7.out⟩
end Go.Proofs.Ytfpkgdenohcglaa.Chn
/- The document's Add. -/
namespace Go.Proofs.Ytfpkgdenohcglaa.Chn
set_option linter.unusedVariables false
set_option linter.unusedSimpArgs false
open Go.RowKit Go.Proofs.Ytfpkgdenohcglaa.Base Go.Proofs.Ytfpkgdenohcglaa.TlvPlain Go.Proofs.Ytfpkgdenohcglaa.ShaPlain Go.Proofs.Ytfpkgdenohcglaa.Sha Go.Proofs.Ytfpkgdenohcglaa.Com Go.Proofs.Ytfpkgdenohcglaa.Aid Go.Proofs.YtfpkgdenohcglaaW.PrintWords Go.Proofs.YtfpkgdenohcglaaW.PrintLast Go.Proofs.YtfpkgdenohcglaaW.PrintMore
theorem reads_one {W : World} {g : Nat} {X : List Value} (h : AtC W ⟨g, 0, none⟩ X) (hl : X.length = 68) (h1 : X.toArray.all (·.oneCell') = true) : ReadsRow RawOk 68 W (some ⟨g, 0, none⟩) 1 [X] := by
  refine ⟨rfl, by decide, fun _ => ⟨_, rfl, fun j p hj => ?_⟩⟩
  rcases j with _ | j
  · simp only [List.getElem?_cons_zero, Option.some.injEq] at hj
    subst hj
    exact ⟨X, hl, ⟨rfl, hl, fun u hu => by rw [List.all_toArray, List.all_eq_true] at h1; exact h1 u hu⟩, fun i u hu => by rw [Nat.zero_mul, Nat.zero_add]; exact h i u hu⟩
  · simp at hj
theorem own_empty (W : World) (base : Nat) (hb : base ≤ W.heap.size) : KW.R 27 (W.alloc (.cells #[] 27)) base (fun _ => True) (.slice (some ⟨W.heap.size, 0, none⟩) 0 0) [] :=
  ⟨fun _ _ => trivial, [], ⟨rfl, Or.inr ⟨W.heap.size, 0, #[], rfl, hb, blk_new _ _, Nat.le_refl _, by decide, by show 0 = 0 * 68; rfl, rfl⟩⟩, Reps.none _ _⟩
theorem run_ent0 (w : World) : (Instr.buildSlice 22 0 #[]).run Try.prog w = .ok (.slice (some ⟨w.heap.size, 0, none⟩) 0 0) (w.alloc (.cells #[] 27)) := by
  obtain ⟨i, hi, hz, hs, hb⟩ := info_parts info_ent3
  simp [Instr.buildSlice, run_underlying Try.underlying22, sizeOf, typeInfo, hi, hs, newRow, Instr.fill, Array.range_zero']
theorem wp_ent0 {o : Oper} {a : Act} {Q : Exit → Act → World → Prop} {K : Act → World → Prop} {w : World} (ho : o.op = .buildSlice 22 0 #[])
    (h : K (a.put o.dst (.slice (some ⟨w.heap.size, 0, none⟩) 0 0)) (w.alloc (.cells #[] 27))) : Oper.wp Try.prog o a w K Q := by
  have hp : ((#[] : Array (Nat × Operand)).map fun (i, y) => (i, a.eval y)) = #[] := by simp
  unfold Oper.wp execOp
  simp only [ho, hp, Sem.run_bind, run_ent0 w, Result.andThen_ok]
  exact h
theorem one_of {X : List Value} (h1 : X.toArray.all (·.oneCell') = true) : ∀ u ∈ X, u.oneCell' = true := fun u hu => by rw [List.all_toArray, List.all_eq_true] at h1; exact h1 u hu
set_option maxHeartbeats 4000000 in
set_option maxRecDepth 100000 in
theorem radd_c (l : List Ent) (m : Nat) (hl : l.length = m) (hm : m ≤ 100000) (hu : Lu' l) (A : Option Addr) (c : Nat) (hc : m ≤ c) (salt : Int) (h0 : 0 ≤ salt) (h1 : salt ≤ 18446744073709551615) (pay : List Int) (hpu : U8 pay) (hpl : pay.length ≤ 100000)
    (B : Option Addr) (cb : Nat) (hcb : pay.length ≤ cb) (w : World) (hr : Re w A l) (hp : Rb w B pay) :
    Calls Try.prog 14 #[.slice A m c, .int .u64 salt, .slice B pay.length cb] w (RetE w (addT l salt pay)) := by
  unfold RetE
  obtain ⟨D, hD⟩ := sumC (headT l) (headT_len _)
  obtain ⟨E, hE⟩ := sumC (comH salt pay) (comH_len _ _)
  have HH := Aside0.mk (rhead_c l m hl (by omega) hu A c w hr)
  unfold Ret at HH
  rw [hD.v] at HH
  have HOF := Aside0.mk (fun W (hW : Below w.heap.size w W) => by
    have h2 := rcof_c salt h0 h1 B cb pay W (Kd.C_below hp hW) hcb hpu hpl
    rw [← comH_eq, hE.v] at h2
    exact h2)
  have HCL := Aside0.mk (fun W (hW : Below w.heap.size w W) => Lo.copy_c B cb pay W (Kd.C_below hp hW) hcb (by omega))
  obtain ⟨rows, hrl, hrr, hrk⟩ := rows_of hr
  have HR := Aside0.mk hrr
  have HRL := Aside0.mk hrl
  have HRK := Aside0.mk hrk
  have HD := Aside0.mk hD
  have HE := Aside0.mk hE
  have HL := Aside0.mk hl
  have HM := Aside0.mk hm
  have q0 : (m : Int) ≤ 100000 := by omega
  clear hl hm hu hc h0 h1 hpu hpl hcb hr hp hD hE hrl hrr hrk
  go_enter Try.func14, Try.ntmps14
  go_upto_region 2 with (first
    | (go_at_call 19; refine HH.out.mono ?_; rintro e w2 ⟨rfl, hb⟩; have HB2 := Aside0.mk hb; clear hb)
    | (go_at_call 44; refine (HOF.out _ HB2.out).mono ?_; rintro e w3 ⟨rfl, hb⟩; have HB3 := Aside0.mk (below_step HB2.out hb); clear hb)
    | (go_at_call 52; refine (HCL.out _ HB3.out).mono ?_; rintro e w4 ⟨v, rfl, ho, hb⟩; have HB4 := Aside0.mk (below_step HB3.out hb); obtain ⟨A4, c4, rfl, hc4, hr4⟩ := Kd.R_reads ho; have HC4 := Aside0.mk hc4; have HR4 := Aside0.mk hr4; clear ho hb hc4 hr4)
    | ((with_reducible refine gate_dst (N := 18) rfl ?_); refine wpList_new rfl (.tmp 9) (.tmp 11) (.tmp 14) (.tmp 15) (.tmp 17) rfl (m : Int) salt D E HD.out.lenC HE.out.lenC A4 pay.length c4 rfl rfl rfl rfl rfl ?_;
       have hC := (show EntC w4 (newE l salt pay) D E A4 c4 from ⟨HD.out, HE.out, HC4.out, HR4.out⟩);
       have HKE := Aside0.mk (ent_mk hC); have HXL := Aside0.mk hC.len; have HXO := Aside0.mk hC.one; have HXI := Aside0.mk hC.info; clear hC;
       rw [show cE (newE l salt pay) D E A4 c4 = cellsE (m : Int) D E salt A4 pay.length c4 false from by rw [← HL.out]] at HKE HXL HXO HXI;
       obtain ⟨X, hX⟩ : ∃ X, cellsE (m : Int) D E salt A4 pay.length c4 false = X := ⟨_, rfl⟩; rw [hX] at HKE HXL HXO HXI ⊢; clear hX;
       have HY := Aside0.mk (show (w4.alloc (.cells zE.toArray 27)).heap[w4.heap.size]? = some (.cells zE.toArray 27 (0, 0)) from blk_new _ _))
    | ((with_reducible refine gate_store (t := 27) (p := 7) (v := .tmp 18) rfl ?_); refine wpList_store_row rfl 27 (.tmp 7) (.tmp 18) rfl w4.heap.size X.toArray rfl rfl 27 zE.toArray HY.out (by rw [List.size_toArray]; exact HXI.out) (by rw [List.size_toArray, List.size_toArray, zE_len, HXL.out]) HXO.out ?_))
  have HX5 := Aside0.mk (atC_blk (setRow_heap (w4.alloc (.cells zE.toArray 27)) w4.heap.size zE.toArray X.toArray _ _ HY.out))
  have HS5 := Aside0.mk (show w4.heap.size ≤ ((w4.alloc (.cells zE.toArray 27)).setRow w4.heap.size X.toArray).heap.size from (below_setRow (below_alloc (Below.refl _ _) _) (Nat.le_refl _) _ : Below w4.heap.size w4 ((w4.alloc (.cells zE.toArray 27)).setRow w4.heap.size X.toArray)).size)
  have HB5 := Aside0.mk (show Below w4.heap.size w4 ((w4.alloc (.cells zE.toArray 27)).setRow w4.heap.size X.toArray) from below_setRow (below_alloc (Below.refl _ _) _) (Nat.le_refl _) _)
  obtain ⟨w5, hw5⟩ : ∃ V, (w4.alloc (.cells zE.toArray 27)).setRow w4.heap.size X.toArray = V := ⟨_, rfl⟩
  rw [hw5] at HX5 HB5 HS5
  rw [show (w4.alloc (.cells Try.zeroCells27 27)).setRow w4.heap.size X.toArray = w5 from hw5]
  clear hw5 HY
  have HB45 := Aside0.mk (below_step HB4.out HB5.out)
  have hu27 := Try.underlying27
  have HB6 := Aside0.mk (below_drew1 (Below.refl w5.heap.size w5))
  refine wp_region_held_drew (S := fun w' => AtC w' ⟨w4.heap.size, 0, none⟩ X) (by kernel_rfl) HX5.out (fun hHeld => ?_)
  (refine wpAnyH_take (i := 1) (v := ?_) rfl (by kernel_rfl) (by kernel_rfl) (by kernel_rfl) (fun _ _ _ h => h) (Or.inl ⟨by rfl, ?_⟩) (by assumption) ?_; (case' refine_2 => (intro w hSw; go_simp; try with_reducible rfl)); (try simp only [Act.put, List.getElem_toArray, List.getElem_cons_zero, List.getElem_cons_succ, List.setIfInBounds_toArray, List.set_cons_zero, List.set_cons_succ]))
  (refine wpAnyH_take (i := 3) rfl (by kernel_rfl) (by kernel_rfl) (by kernel_rfl) (fun _ _ _ h => h) (yieldsIf_load_at (by rfl) _ _ rfl ⟨w4.heap.size, 0, none⟩ rfl X _ (fun _ h => h) (by assumption) rfl HXI.out) (by assumption) ?_; (try simp only [Act.put, List.getElem_toArray, List.getElem_cons_zero, List.getElem_cons_succ, List.setIfInBounds_toArray, List.set_cons_zero, List.set_cons_succ]))
  refine wpAnyH_ready (rs := [0, 4]) (by kernel_rfl) (by simp) (AllReadyH.cons rfl (fun K hK => ?_) (AllReadyH.cons rfl (fun K hK => ?_) AllReadyH.nil))
  · rw [if_pos (by rfl)]
    refine wp_ent0 rfl ?_
    have HO10 := Aside0.mk (own_empty w5.drew w5.heap.size HB6.out.size)
    have HB10 := Aside0.mk (below_alloc HB6.out (.cells #[] 27))
    (refine Shut.out hK _ _ (HX5.out.below HB10.out) (fun hHeld => ?_); clear hK K; (try simp only [Act.put, List.getElem_toArray, List.getElem_cons_zero, List.getElem_cons_succ, List.setIfInBounds_toArray, List.set_cons_zero, List.set_cons_succ]))
    refine wpAnyH_ready (rs := [2, 4]) (by kernel_rfl) (by simp) (AllReadyH.cons rfl (fun K hK => ?_) (AllReadyH.cons rfl (fun K hK => ?_) AllReadyH.nil))
    · refine Kd.R_append_rows_step KW (Rr := RawOk) (w0 := w5) w5.heap.size rfl (.tmp 19) (.tmp 20) 22 27 (.agg Try.zeroCells27) 112 rfl Try.underlying22 info_ent3 rfl (by decide) (by decide) (.slice (some ⟨w5.drew.heap.size, 0, none⟩) 0 0) [] rows A m c (fun _ => True) (fun _ => False) rfl rfl HO10.out (by have h := ReadsRow.imp_ HR.out (below_step HB45.out HB10.out) (fun _ _ hp => hp); rw [HL.out] at h; exact h) (fun _ _ h => h) (fun _ h => h.elim) (fun _ _ => trivial) HB10.out HB10.out.size (by have := HM.out; simp; omega) ?_
      intro v11 w11 ho hb hg hat
      have HO11 := Aside0.mk (show KW.R 27 w11 w5.heap.size (fun _ => True) v11 rows from ho)
      have HB11 := Aside0.mk hb
      clear ho hb hg hat
      (refine Shut.out hK _ _ (HX5.out.below HB11.out) (fun hHeld => ?_); clear hK K; (try simp only [Act.put, List.getElem_toArray, List.getElem_cons_zero, List.getElem_cons_succ, List.setIfInBounds_toArray, List.set_cons_zero, List.set_cons_succ]))
      refine wpAnyH_ready (rs := [4]) (by kernel_rfl) (by simp) (AllReadyH.cons rfl (fun K hK => ?_) AllReadyH.nil)
      rw [if_pos (by rfl)]
      refine wp_ent1 (.tmp 22) rfl X rfl HXL.out ?_
      have HG12 := Aside0.mk (atC_blk (blk_new w11 (.cells X.toArray 27)))
      have HB12 := Aside0.mk (below_alloc HB11.out (.cells X.toArray 27))
      have HO12 := Aside0.mk (Kd.R_alloc HO11.out (.cells X.toArray 27))
      (refine Shut.out hK _ _ (HX5.out.below HB12.out) (fun hHeld => ?_); clear hK K; (try simp only [Act.put, List.getElem_toArray, List.getElem_cons_zero, List.getElem_cons_succ, List.setIfInBounds_toArray, List.set_cons_zero, List.set_cons_succ]))
      refine wpAnyH_ready (rs := [5]) (by kernel_rfl) (by simp) (AllReadyH.cons rfl (fun K hK => ?_) AllReadyH.nil)
      refine Kd.R_append_rows_step KW (Rr := RawOk) (w0 := w5) w5.heap.size rfl (.tmp 21) (.tmp 23) 22 27 (.agg Try.zeroCells27) 112 rfl Try.underlying22 info_ent3 rfl (by decide) (by decide) v11 rows [X] _ 1 1 (fun _ => True) (fun _ => False) rfl rfl HO12.out (reads_one HG12.out HXL.out HXO.out) (fun _ _ h => h) (fun _ h => h.elim) (fun _ _ => trivial) HB12.out HB12.out.size (by rw [HRL.out, HL.out]; have := HM.out; omega) ?_
      intro v13 w13 ho hb hg hat
      have HO13 := Aside0.mk ho
      have HB13 := Aside0.mk hb
      clear ho hb hg hat
      (refine Shut.out hK _ _ (HX5.out.below HB13.out) (fun hHeld => ?_); clear hK K; (try simp only [Act.put, List.getElem_toArray, List.getElem_cons_zero, List.getElem_cons_succ, List.setIfInBounds_toArray, List.set_cons_zero, List.set_cons_succ]))
      (refine wpAnyH_take (i := 6) (v := ?_) rfl (by kernel_rfl) (by kernel_rfl) (by kernel_rfl) (fun _ _ _ h => h) (Or.inl ⟨by rfl, ?_⟩) (by assumption) ?_; (case' refine_2 => (intro w hSw; go_simp; try with_reducible rfl)); (try simp only [Act.put, List.getElem_toArray, List.getElem_cons_zero, List.getElem_cons_succ, List.setIfInBounds_toArray, List.set_cons_zero, List.set_cons_succ]))
      refine wpAnyH_done (by kernel_rfl) ?_ _
      go_wp2_with (fail)
      go_ret
      have hb7 := below_step HB5.out HB13.out
      have hfin := Rw.snoc (x := newE l salt pay) (w0 := w) (W := w4) HRL.out HO13.out HRK.out (below_step HB45.out HB13.out) HKE.out hb7
      exact ⟨_, rfl, hfin.lower HB45.out.size, below_step HB45.out HB13.out⟩
    · rw [if_pos (by rfl)]
      refine wp_ent1 (.tmp 22) rfl X rfl HXL.out ?_
      have HG21 := Aside0.mk (atC_blk (blk_new (w5.drew.alloc (.cells #[] 27)) (.cells X.toArray 27)))
      have HB21 := Aside0.mk (below_alloc HB10.out (.cells X.toArray 27))
      have HO21 := Aside0.mk (Kd.R_alloc HO10.out (.cells X.toArray 27))
      (refine Shut.out hK _ _ (HX5.out.below HB21.out) (fun hHeld => ?_); clear hK K; (try simp only [Act.put, List.getElem_toArray, List.getElem_cons_zero, List.getElem_cons_succ, List.setIfInBounds_toArray, List.set_cons_zero, List.set_cons_succ]))
      refine wpAnyH_ready (rs := [2]) (by kernel_rfl) (by simp) (AllReadyH.cons rfl (fun K hK => ?_) AllReadyH.nil)
      refine Kd.R_append_rows_step KW (Rr := RawOk) (w0 := w5) w5.heap.size rfl (.tmp 19) (.tmp 20) 22 27 (.agg Try.zeroCells27) 112 rfl Try.underlying22 info_ent3 rfl (by decide) (by decide) (.slice (some ⟨w5.drew.heap.size, 0, none⟩) 0 0) [] rows A m c (fun _ => True) (fun _ => False) rfl rfl HO21.out (by have h := ReadsRow.imp_ HR.out (below_step HB45.out HB21.out) (fun _ _ hp => hp); rw [HL.out] at h; exact h) (fun _ _ h => h) (fun _ h => h.elim) (fun _ _ => trivial) HB21.out HB21.out.size (by have := HM.out; simp; omega) ?_
      intro v22 w22 ho hb hg hat
      have HO22 := Aside0.mk (show KW.R 27 w22 w5.heap.size (fun _ => True) v22 rows from ho)
      have HB22 := Aside0.mk hb
      have HG22 := Aside0.mk (atC_grown HG21.out hg (by intro h; simp [Value.ownBlock, World.alloc] at h))
      clear ho hb hg hat
      (refine Shut.out hK _ _ (HX5.out.below HB22.out) (fun hHeld => ?_); clear hK K; (try simp only [Act.put, List.getElem_toArray, List.getElem_cons_zero, List.getElem_cons_succ, List.setIfInBounds_toArray, List.set_cons_zero, List.set_cons_succ]))
      refine wpAnyH_ready (rs := [5]) (by kernel_rfl) (by simp) (AllReadyH.cons rfl (fun K hK => ?_) AllReadyH.nil)
      refine Kd.R_append_rows_step KW (Rr := RawOk) (w0 := w5) w5.heap.size rfl (.tmp 21) (.tmp 23) 22 27 (.agg Try.zeroCells27) 112 rfl Try.underlying22 info_ent3 rfl (by decide) (by decide) v22 rows [X] _ 1 1 (fun _ => True) (fun _ => False) rfl rfl HO22.out (reads_one HG22.out HXL.out HXO.out) (fun _ _ h => h) (fun _ h => h.elim) (fun _ _ => trivial) HB22.out HB22.out.size (by rw [HRL.out, HL.out]; have := HM.out; omega) ?_
      intro v23 w23 ho hb hg hat
      have HO23 := Aside0.mk ho
      have HB23 := Aside0.mk hb
      clear ho hb hg hat
      (refine Shut.out hK _ _ (HX5.out.below HB23.out) (fun hHeld => ?_); clear hK K; (try simp only [Act.put, List.getElem_toArray, List.getElem_cons_zero, List.getElem_cons_succ, List.setIfInBounds_toArray, List.set_cons_zero, List.set_cons_succ]))
      (refine wpAnyH_take (i := 6) (v := ?_) rfl (by kernel_rfl) (by kernel_rfl) (by kernel_rfl) (fun _ _ _ h => h) (Or.inl ⟨by rfl, ?_⟩) (by assumption) ?_; (case' refine_2 => (intro w hSw; go_simp; try with_reducible rfl)); (try simp only [Act.put, List.getElem_toArray, List.getElem_cons_zero, List.getElem_cons_succ, List.setIfInBounds_toArray, List.set_cons_zero, List.set_cons_succ]))
      refine wpAnyH_done (by kernel_rfl) ?_ _
      go_wp2_with (fail)
      go_ret
      have hb7 := below_step HB5.out HB23.out
      have hfin := Rw.snoc (x := newE l salt pay) (w0 := w) (W := w4) HRL.out HO23.out HRK.out (below_step HB45.out HB23.out) HKE.out hb7
      exact ⟨_, rfl, hfin.lower HB45.out.size, below_step HB45.out HB23.out⟩
  · rw [if_pos (by rfl)]
    refine wp_ent1 (.tmp 22) rfl X rfl HXL.out ?_
    have HG30 := Aside0.mk (atC_blk (blk_new w5.drew (.cells X.toArray 27)))
    have HB30 := Aside0.mk (below_alloc HB6.out (.cells X.toArray 27))
    (refine Shut.out hK _ _ (HX5.out.below HB30.out) (fun hHeld => ?_); clear hK K; (try simp only [Act.put, List.getElem_toArray, List.getElem_cons_zero, List.getElem_cons_succ, List.setIfInBounds_toArray, List.set_cons_zero, List.set_cons_succ]))
    refine wpAnyH_ready (rs := [0]) (by kernel_rfl) (by simp) (AllReadyH.cons rfl (fun K hK => ?_) AllReadyH.nil)
    rw [if_pos (by rfl)]
    refine wp_ent0 rfl ?_
    have HO31 := Aside0.mk (own_empty (w5.drew.alloc (.cells X.toArray 27)) w5.heap.size HB30.out.size)
    have HB31 := Aside0.mk (below_alloc HB30.out (.cells #[] 27))
    have HG31 := Aside0.mk (HG30.out.below (below_alloc (Below.refl _ _) (.cells #[] 27)))
    (refine Shut.out hK _ _ (HX5.out.below HB31.out) (fun hHeld => ?_); clear hK K; (try simp only [Act.put, List.getElem_toArray, List.getElem_cons_zero, List.getElem_cons_succ, List.setIfInBounds_toArray, List.set_cons_zero, List.set_cons_succ]))
    refine wpAnyH_ready (rs := [2]) (by kernel_rfl) (by simp) (AllReadyH.cons rfl (fun K hK => ?_) AllReadyH.nil)
    refine Kd.R_append_rows_step KW (Rr := RawOk) (w0 := w5) w5.heap.size rfl (.tmp 19) (.tmp 20) 22 27 (.agg Try.zeroCells27) 112 rfl Try.underlying22 info_ent3 rfl (by decide) (by decide) (.slice (some ⟨(w5.drew.alloc (.cells X.toArray 27)).heap.size, 0, none⟩) 0 0) [] rows A m c (fun _ => True) (fun _ => False) rfl rfl HO31.out (by have h := ReadsRow.imp_ HR.out (below_step HB45.out HB31.out) (fun _ _ hp => hp); rw [HL.out] at h; exact h) (fun _ _ h => h) (fun _ h => h.elim) (fun _ _ => trivial) HB31.out HB31.out.size (by have := HM.out; simp; omega) ?_
    intro v32 w32 ho hb hg hat
    have HO32 := Aside0.mk (show KW.R 27 w32 w5.heap.size (fun _ => True) v32 rows from ho)
    have HB32 := Aside0.mk hb
    have HG32 := Aside0.mk (atC_grown HG31.out hg (by intro h; simp [Value.ownBlock, World.alloc] at h))
    clear ho hb hg hat
    (refine Shut.out hK _ _ (HX5.out.below HB32.out) (fun hHeld => ?_); clear hK K; (try simp only [Act.put, List.getElem_toArray, List.getElem_cons_zero, List.getElem_cons_succ, List.setIfInBounds_toArray, List.set_cons_zero, List.set_cons_succ]))
    refine wpAnyH_ready (rs := [5]) (by kernel_rfl) (by simp) (AllReadyH.cons rfl (fun K hK => ?_) AllReadyH.nil)
    refine Kd.R_append_rows_step KW (Rr := RawOk) (w0 := w5) w5.heap.size rfl (.tmp 21) (.tmp 23) 22 27 (.agg Try.zeroCells27) 112 rfl Try.underlying22 info_ent3 rfl (by decide) (by decide) v32 rows [X] _ 1 1 (fun _ => True) (fun _ => False) rfl rfl HO32.out (reads_one HG32.out HXL.out HXO.out) (fun _ _ h => h) (fun _ h => h.elim) (fun _ _ => trivial) HB32.out HB32.out.size (by rw [HRL.out, HL.out]; have := HM.out; omega) ?_
    intro v33 w33 ho hb hg hat
    have HO33 := Aside0.mk ho
    have HB33 := Aside0.mk hb
    clear ho hb hg hat
    (refine Shut.out hK _ _ (HX5.out.below HB33.out) (fun hHeld => ?_); clear hK K; (try simp only [Act.put, List.getElem_toArray, List.getElem_cons_zero, List.getElem_cons_succ, List.setIfInBounds_toArray, List.set_cons_zero, List.set_cons_succ]))
    (refine wpAnyH_take (i := 6) (v := ?_) rfl (by kernel_rfl) (by kernel_rfl) (by kernel_rfl) (fun _ _ _ h => h) (Or.inl ⟨by rfl, ?_⟩) (by assumption) ?_; (case' refine_2 => (intro w hSw; go_simp; try with_reducible rfl)); (try simp only [Act.put, List.getElem_toArray, List.getElem_cons_zero, List.getElem_cons_succ, List.setIfInBounds_toArray, List.set_cons_zero, List.set_cons_succ]))
    refine wpAnyH_done (by kernel_rfl) ?_ _
    go_wp2_with (fail)
    go_ret
    have hb7 := below_step HB5.out HB33.out
    have hfin := Rw.snoc (x := newE l salt pay) (w0 := w) (W := w4) HRL.out HO33.out HRK.out (below_step HB45.out HB33.out) HKE.out hb7
    exact ⟨_, rfl, hfin.lower HB45.out.size, below_step HB45.out HB33.out⟩
end Go.Proofs.Ytfpkgdenohcglaa.Chn
/- Redact of chain and of the document. -/
namespace Go.Proofs.Ytfpkgdenohcglaa.Chn
set_option linter.unusedVariables false
set_option linter.unusedSimpArgs false
open Go.RowKit Go.Proofs.Ytfpkgdenohcglaa.Base Go.Proofs.Ytfpkgdenohcglaa.TlvPlain Go.Proofs.Ytfpkgdenohcglaa.ShaPlain Go.Proofs.Ytfpkgdenohcglaa.Sha Go.Proofs.Ytfpkgdenohcglaa.Com Go.Proofs.Ytfpkgdenohcglaa.Aid Go.Proofs.YtfpkgdenohcglaaW.PrintWords Go.Proofs.YtfpkgdenohcglaaW.PrintLast Go.Proofs.YtfpkgdenohcglaaW.PrintMore
/-- An entry's fields, wherever it lies. -/
structure EntF (W : World) (ad : Addr) (x : Ent) (P C : List Value) (A : Option Addr) (c : Nat) : Prop where
  s : W.cell? ad = some (.int .i64 (seqE x))
  fp : AtC W (ad.add 1) P
  fc : AtC W (ad.add 33) C
  sl : W.cell? (ad.add 65) = some (.int .u64 (saltE x))
  py : W.cell? (ad.add 66) = some (.slice A (payE x).length c)
  r : W.cell? (ad.add 67) = some (.bool (redE x))
theorem EntF.below {W W' : World} {ad : Addr} {x : Ent} {P C : List Value} {A : Option Addr} {c : Nat} (h : EntF W ad x P C A c) (hb : Below W.heap.size W W') : EntF W' ad x P C A c :=
  ⟨cell_below hb h.s, h.fp.below hb, h.fc.below hb, cell_below hb h.sl, cell_below hb h.py, cell_below hb h.r⟩
theorem entF {W : World} {ad : Addr} {x : Ent} {P C : List Value} {A : Option Addr} {c : Nat} (hP : P.length = 32) (hC : C.length = 32) (h : AtC W ad (cE x P C A c)) : EntF W ad x P C A c := by
  have h0 : W.cell? ad = some (.int .i64 (seqE x)) := by have h := h 0 _ rfl; rwa [show ad.add 0 = ad from rfl] at h
  have h1 := AtC.right (a := [Value.int .i64 (seqE x)]) (b := P ++ (C ++ [Value.int .u64 (saltE x), .slice A (payE x).length c, .bool (redE x)])) h
  have h2 := h1.right
  rw [hP, show (ad.add [Value.int .i64 (seqE x)].length).add 32 = ad.add 33 from addr_add_add _ _ _] at h2
  have h3 := h2.right
  rw [hC, addr_add_add] at h3
  refine ⟨h0, h1.left, h2.left, ?_, ?_, ?_⟩
  · have h4 := h3 0 _ rfl
    rwa [addr_add_add] at h4
  · have h4 := h3 1 _ rfl
    rwa [addr_add_add] at h4
  · have h4 := h3 2 _ rfl
    rwa [addr_add_add] at h4
theorem set_last (s sl : Int) (P C : List Value) (hP : P.length = 32) (hC : C.length = 32) (A : Option Addr) (n c : Nat) (r : Bool) :
    (((cellsE s P C sl A n c r).set 65 (.int .u64 0)).set 66 (.slice none 0 0)).set 67 (.bool true) = cellsE s P C 0 none 0 0 true := by
  have e : ∀ l : List Value, Value.int .i64 s :: (P ++ (C ++ l)) = (Value.int .i64 s :: (P ++ C)) ++ l := fun l => by simp
  have hn : (Value.int .i64 s :: (P ++ C)).length = 65 := by simp [hP, hC]
  unfold cellsE
  rw [e, e, List.set_append_right _ _ (by rw [hn]; decide), List.set_append_right _ _ (by rw [hn]; decide), List.set_append_right _ _ (by rw [hn]; decide), hn]
  rfl
theorem cut_mk {w : World} {x : Ent} {P C : List Value} {A : Option Addr} {c : Nat} (h : EntC w x P C A c) : EntC w (cutE x) P C none 0 := ⟨h.fp, h.fc, Nat.le_refl _, Kd.C_nil _ _⟩
theorem Rw.cut {w0 w' : World} {base : Nat} {v : Value} {l : List Ent} {rows : List (List Value)} {k : Nat} {x : Ent} {cs : List Value} (hl : rows.length = l.length) (hR : KW.R 27 w' base (fun _ => True) v (rows.set k cs))
    (h0 : ∀ (j : Nat) (x : Ent) (c : List Value), l[j]? = some x → rows[j]? = some c → DEnt.K w0 x c) (hb0 : Below w0.heap.size w0 w') (hx : DEnt.K w0 x cs) : Rw w' base v (l.set k x) := by
  refine ⟨rows.set k cs, by simp [hl], hR, fun j y c hy hc => ?_⟩
  rw [List.getElem?_set] at hy hc
  split at hy
  · next he =>
    rw [if_pos he] at hc
    split at hy
    · next hlt =>
      rw [if_pos (by omega)] at hc
      rw [← Option.some.inj hy, ← Option.some.inj hc]
      exact DEnt.K_below hb0 hx
    · cases hy
  · next he =>
    rw [if_neg he] at hc
    exact DEnt.K_below hb0 (h0 j y c hy hc)
section
variable {ops : Array Oper} {rest : List Oper} {o : Oper} {a : Act} {Q : Exit → Act → World → Prop}
/-- One cell of an entry in a row of one's own. -/
theorem wpList_put {W w0 : World} {base : Nat} (hN : o.dst = none) (hgd : o.guard = none) (t : TypeId) (p x : Operand) (ho : o.op = .store t p x) {g n cap o' : Nat} (k j : Nat) (rows : List (List Value)) (u : Value) (c : List Value)
    (haddr : a.eval p = .pointer (some ⟨g, o', none⟩)) (hoff : o' = k * 68 + j) (hx : a.eval x = u) (hu : u.cells.toList = [u]) (ht : (Try.prog.info? t).map (·.size) = some 1) (h1 : u.oneCell' = true)
    (HO : KW.R 27 W base (fun _ => True) (.slice (some ⟨g, 0, none⟩) n cap) rows) (hk : k < n) (hc : rows[k]? = some c) (hj : j < 68) (HB : Below base w0 W)
    (h : ∀ w1, KW.R 27 w1 base (fun _ => True) (.slice (some ⟨g, 0, none⟩) n cap) (rows.set k (c.set j u)) → Below base w0 w1 → wpList Try.prog ops Q rest a w1) : wpList Try.prog ops Q (o :: rest) a W := by
  obtain ⟨c', hcl, hM, hcc, _⟩ := Kd.R_elem HO [] (k : Int) (by omega) (by omega)
  rw [Int.toNat_natCast] at hM hcc
  have he : c' = c := by
    have h2 := hM.1
    rwa [List.getD_eq_getElem?_getD, hc] at h2
  subst he
  have hcl : c'.length = 68 := hcl
  have hset : c'.take j ++ [u] ++ c'.drop (j + 1) = c'.set j u := by
    rw [List.set_eq_take_append_cons_drop, if_pos (by omega)]
    simp
  refine Kd.R_store KW base hN hgd t p x ho 27 (k : Int) j rows (c'.set j u) u [u] c' (fun _ => True) (fun _ => False) haddr (by rw [hoff, Int.toNat_natCast]; rfl) hx hu ht (fun q hq => by rw [List.mem_singleton.1 hq]; exact h1) HO (by omega) (by omega) hcl (by rw [Int.toNat_natCast]; exact hcc) (by show j + 1 ≤ 68; omega)
    ⟨hset, by show (c'.take j ++ [u] ++ c'.drop (j + 1)).length = 68; rw [hset, List.length_set, hcl], fun q hq => by
      rw [show [u].length = 1 from rfl, hset] at hq
      rcases List.mem_or_eq_of_mem_set hq with h3 | h3
      · exact hM.2.2 q h3
      · rw [h3]; exact h1⟩ (fun _ hk => hk.elim) HB ?_
  intro w1 hr hb hg
  rw [Int.toNat_natCast] at hr
  exact h w1 hr hb
theorem wpList_ent0 {w : World} (hgd : o.guard = none) (ho : o.op = .buildSlice 22 0 #[]) (h : wpList Try.prog ops Q rest (a.put o.dst (.slice (some ⟨w.heap.size, 0, none⟩) 0 0)) (w.alloc (.cells #[] 27))) : wpList Try.prog ops Q (o :: rest) a w :=
  wpList_plain hgd fun _ hK => wp_ent0 ho (hK _ _ h)
end
abbrev RetR (w : World) (r : List Ent × Int) : Ending → World → Prop := fun e w' => ∃ v, e = .returned (.tuple #[v, .int .i64 r.2]) ∧ Rw w' w.heap.size v r.1 ∧ Below w.heap.size w w'
theorem fin_red {w w5 : World} {l : List Ent} {rows : List (List Value)} {k m g cap : Nat} {x : Ent} {cs : List Value} (hl : rows.length = l.length) (hK : ∀ (j : Nat) (x : Ent) (c : List Value), l[j]? = some x → rows[j]? = some c → DEnt.K w x c)
    (hc : DEnt.K w x cs) (hb : Below w.heap.size w w5)
    (hR : KW.R 27 w5 w.heap.size (fun _ => True) (.slice (some ⟨g, 0, none⟩) m cap) (rows.set k (((cs.set 65 (.int .u64 0)).set 66 (.slice none 0 0)).set 67 (.bool true)))) :
    Rw w5 w.heap.size (.slice (some ⟨g, 0, none⟩) m cap) (l.set k (cutE x)) := by
  obtain ⟨P, C, A, c, hC, rfl⟩ := ent_open hc
  rw [set_last _ _ _ _ hC.fp.lenC hC.fc.lenC] at hR
  exact Rw.cut hl hR hK hb (ent_mk (cut_mk hC))
theorem redT_bad (l : List Ent) (i : Int) (h : i < 0 ∨ (l.length : Int) ≤ i) : redT l i = ([], 5) := by
  unfold redT
  rw [if_neg (by omega)]
theorem redT_in (l : List Ent) (k : Nat) (h : k < l.length) : redT l (k : Int) = if redE l[k] then ([], 13) else (l.set k (cutE l[k]), 0) := by
  unfold redT
  rw [if_pos (by omega), Int.toNat_natCast, List.getElem?_eq_getElem h]
set_option maxHeartbeats 4000000 in
set_option maxRecDepth 100000 in
theorem redact_bad (l : List Ent) (m : Nat) (hl : l.length = m) (hm : m ≤ 100000) (i : Int) (h : i < 0 ∨ (m : Int) ≤ i) (A : Option Addr) (c : Nat) (w : World) :
    Calls Try.prog 15 #[.slice A m c, .int .i64 i] w (RetR w (redT l i)) := by
  rw [redT_bad l i (by rw [hl]; exact h)]
  unfold RetR
  by_cases h0 : i < 0
  · have d1 : decide (i < 0) = true := decide_eq_true h0
    clear hl h
    go_enter Try.func15, Try.ntmps15
    go_wp2_with (fail)
    go_ret2
    exact ⟨_, rfl, Rw.nil _ _, Below.refl _ _⟩
  · have d1 : decide (i < 0) = false := decide_eq_false h0
    have d2 : decide ((m : Int) ≤ i) = true := decide_eq_true (by omega)
    have q1 : (m : Int) ≤ i := by omega
    have q2 : (0 : Int) ≤ i := by omega
    clear hl h
    go_enter Try.func15, Try.ntmps15
    go_wp2_with (fail)
    go_ret2
    exact ⟨_, rfl, Rw.nil _ _, Below.refl _ _⟩
set_option maxHeartbeats 4000000 in
set_option maxRecDepth 100000 in
theorem rredact_bad (l : List Ent) (m : Nat) (hl : l.length = m) (hm : m ≤ 100000) (i : Int) (h : i < 0 ∨ (m : Int) ≤ i) (A : Option Addr) (c : Nat) (w : World) :
    Calls Try.prog 16 #[.slice A m c, .int .i64 i] w (RetR w (redT l i)) := by
  rw [redT_bad l i (by rw [hl]; exact h)]
  unfold RetR
  by_cases h0 : i < 0
  · have d1 : decide (i < 0) = true := decide_eq_true h0
    clear hl h
    go_enter Try.func16, Try.ntmps16
    go_wp2_with (fail)
    go_ret2
    exact ⟨_, rfl, Rw.nil _ _, Below.refl _ _⟩
  · have d1 : decide (i < 0) = false := decide_eq_false h0
    have d2 : decide ((m : Int) ≤ i) = true := decide_eq_true (by omega)
    have q1 : (m : Int) ≤ i := by omega
    have q2 : (0 : Int) ≤ i := by omega
    clear hl h
    go_enter Try.func16, Try.ntmps16
    go_wp2_with (fail)
    go_ret2
    exact ⟨_, rfl, Rw.nil _ _, Below.refl _ _⟩
set_option maxHeartbeats 4000000 in
set_option maxRecDepth 100000 in
theorem redact_in (l : List Ent) (m : Nat) (hl : l.length = m) (hm : m ≤ 100000) (k : Nat) (hk : k < m) (A : Option Addr) (c : Nat) (hc : m ≤ c) (w : World) (hr : Re w A l) :
    Calls Try.prog 15 #[.slice A m c, .int .i64 k] w (RetR w (redT l (k : Int))) := by
  rw [redT_in l k (by omega)]
  obtain ⟨ad, P, C, B, cb, rfl, hat, hC⟩ := re_at hr k (by omega)
  have HEF := Aside0.mk (entF hC.fp.lenC hC.fc.lenC hat)
  obtain ⟨x, hx⟩ : ∃ x, l[k]'(by omega) = x := ⟨_, rfl⟩
  have HXK := Aside0.mk (show l[k]? = some x from by rw [List.getElem?_eq_getElem (by omega), hx])
  rw [hx] at hat hC HEF ⊢
  have HC := Aside0.mk hC
  have HAT := Aside0.mk hat
  have q0 : (0 : Int) ≤ (k : Int) := by omega
  have q1 : (k : Int) < (m : Int) := by omega
  have q2 : decide ((k : Int) < 0) = false := decide_eq_false (by omega)
  have q3 : decide ((m : Int) ≤ (k : Int)) = false := decide_eq_false (by omega)
  have q4 : decide (m ≤ k) = false := decide_eq_false (by omega)
  have q5 : (k : Int) ≤ 100000 := by omega
  have HM := Aside0.mk hm
  have HK := Aside0.mk hk
  have HL := Aside0.mk hl
  have HR := Aside0.mk hr
  unfold RetR
  have HCL := Aside0.mk (eclone_c l m hl hm (some ad) c hc w hr)
  have hred : w.cell? ⟨(ad.add (k * 68)).block, (ad.add (k * 68)).off + 67, none⟩ = some (.bool (redE x)) := HEF.out.r
  obtain ⟨rd, hrd⟩ : ∃ rd, redE x = rd := ⟨_, rfl⟩
  rw [hrd] at hred ⊢
  clear hl hm hk hc hr hat hC hx hrd
  cases rd with
  | true =>
    rw [if_pos rfl]
    go_enter Try.func15, Try.ntmps15
    go_wp2_with (fail)
    go_ret2
    exact ⟨_, rfl, Rw.nil _ _, Below.refl _ _⟩
  | false =>
    rw [if_neg Bool.false_ne_true]
    go_enter Try.func15, Try.ntmps15
    go_wp2_with (fail)
    refine HCL.out.mono ?_
    rintro e w2 ⟨v, rows, rfl, hrl, hR, hK, hb⟩
    obtain ⟨g, cap, hv, hg1, hg2, _⟩ := Kd.R_form hR (by rw [hrl, HL.out]; exact Nat.lt_of_le_of_lt (Nat.zero_le _) HK.out)
    subst hv
    rw [hrl, HL.out] at hR ⊢
    have hkr : k < rows.length := by rw [hrl, HL.out]; exact HK.out
    have HRK := Aside0.mk (List.getElem?_eq_getElem hkr)
    obtain ⟨cs, hcs⟩ : ∃ cs, rows[k] = cs := ⟨_, rfl⟩
    rw [hcs] at HRK
    have HKC := Aside0.mk (hK k x cs HXK.out HRK.out)
    have HR2 := Aside0.mk hR
    have HKK := Aside0.mk hK
    have HRL := Aside0.mk hrl
    have HB2 := Aside0.mk hb
    have HKR := Aside0.mk hkr
    clear hrl hR hK hb hg1 hg2 hkr hcs hred
    go_wp2_with (first
      | ((with_reducible refine gate_store (t := 24) (p := 31) (v := _) rfl ?_); refine wpList_put (w0 := w2) (base := w.heap.size) rfl rfl 24 (.tmp 31) _ rfl k 65 rows (.int .u64 0) cs rfl (by first | rfl | omega) rfl rfl (by kernel_rfl) rfl HR2.out HK.out HRK.out (by decide) ⟨rfl, rfl, rfl, Nat.le_refl _, fun _ _ => rfl⟩ ?_; intro w3 ho hb; have HR3 := Aside0.mk ho; have HB3 := Aside0.mk hb; clear ho hb)
      | ((with_reducible refine gate_store (t := 25) (p := 33) (v := _) rfl ?_); refine wpList_put (w0 := w2) (base := w.heap.size) rfl rfl 25 (.tmp 33) _ rfl k 66 _ (.slice none 0 0) _ rfl (by first | rfl | omega) rfl rfl (by kernel_rfl) rfl HR3.out HK.out (List.getElem?_set_self HKR.out) (by decide) HB3.out ?_; intro w4 ho hb; have HR4 := Aside0.mk ho; have HB4 := Aside0.mk hb; clear ho hb)
      | ((with_reducible refine gate_store (t := 4) (p := 35) (v := _) rfl ?_); refine wpList_put (w0 := w2) (base := w.heap.size) rfl rfl 4 (.tmp 35) _ rfl k 67 _ (.bool true) _ rfl (by first | rfl | omega) rfl rfl (by kernel_rfl) rfl HR4.out HK.out (List.getElem?_set_self (by rw [List.length_set]; exact HKR.out)) (by decide) HB4.out ?_; intro w5 ho hb; have HR5 := Aside0.mk ho; have HB5 := Aside0.mk hb; clear ho hb))
    go_ret2
    have hR5 := HR5.out
    rw [List.set_set, List.set_set] at hR5
    exact ⟨_, rfl, fin_red HRL.out HKK.out HKC.out (HB2.out.trans HB5.out) hR5, HB2.out.trans HB5.out⟩
theorem wp_putE {o : Oper} {a : Act} {Q : Exit → Act → World → Prop} {Kc : Act → World → Prop} {W w0 : World} {base : Nat} (hN : o.dst = none) (p x : Operand) (ho : o.op = .store 27 p x) {g n cap o' : Nat} (k : Nat) (rows : List (List Value)) (X : List Value)
    (haddr : a.eval p = .pointer (some ⟨g, o', none⟩)) (hoff : o' = k * 68) (hx : a.eval x = .agg X.toArray) (hXl : X.length = 68) (hXo : ∀ u ∈ X, u.oneCell' = true)
    (HO : KW.R 27 W base (fun _ => True) (.slice (some ⟨g, 0, none⟩) n cap) rows) (hk : k < n) (HB : Below base w0 W)
    (h : ∀ w1, KW.R 27 w1 base (fun _ => True) (.slice (some ⟨g, 0, none⟩) n cap) (rows.set k X) → Below base w0 w1 → Kc a w1) : Oper.wp Try.prog o a W Kc Q := by
  obtain ⟨c', hcl, hM, hcc, _⟩ := Kd.R_elem HO [] (k : Int) (by omega) (by omega)
  have hcl : c'.length = 68 := hcl
  have hset : c'.take 0 ++ X ++ c'.drop (0 + X.length) = X := by rw [List.drop_of_length_le (by omega)]; simp
  refine wp_R_store KW base hN 27 p x ho 27 (k : Int) 0 rows X (.agg X.toArray) X c' (fun _ => True) (fun _ => False) haddr (by rw [hoff, Int.toNat_natCast]; rfl) hx (by simp [Value.cells]) (by rw [hXl]; exact info_ent) hXo HO (by omega) (by omega) hcl hcc (by show 0 + X.length ≤ 68; omega)
    ⟨hset, by rw [hset]; exact hXl, by rw [hset]; exact hXo⟩ (fun _ hk => hk.elim) HB ?_
  intro w1 hr hb hg
  rw [Int.toNat_natCast] at hr
  exact h w1 hr hb
set_option maxHeartbeats 4000000 in
set_option maxRecDepth 100000 in
theorem rredact_in (l : List Ent) (m : Nat) (hl : l.length = m) (hm : m ≤ 100000) (k : Nat) (hk : k < m) (A : Option Addr) (c : Nat) (hc : m ≤ c) (w : World) (hr : Re w A l) :
    Calls Try.prog 16 #[.slice A m c, .int .i64 k] w (RetR w (redT l (k : Int))) := by
  rw [redT_in l k (by omega)]
  obtain ⟨ad, P, C, B, cb, rfl, hat, hC⟩ := re_at hr k (by omega)
  have HEF := Aside0.mk (entF hC.fp.lenC hC.fc.lenC hat)
  obtain ⟨x, hx⟩ : ∃ x, l[k]'(by omega) = x := ⟨_, rfl⟩
  have HXK := Aside0.mk (show l[k]? = some x from by rw [List.getElem?_eq_getElem (by omega), hx])
  rw [hx] at hat hC HEF ⊢
  have HC := Aside0.mk hC
  have HAT := Aside0.mk hat
  have q0 : (0 : Int) ≤ (k : Int) := by omega
  have q1 : (k : Int) < (m : Int) := by omega
  have q2 : decide ((k : Int) < 0) = false := decide_eq_false (by omega)
  have q3 : decide ((m : Int) ≤ (k : Int)) = false := decide_eq_false (by omega)
  have q4 : decide (m ≤ k) = false := decide_eq_false (by omega)
  have q5 : (k : Int) ≤ 100000 := by omega
  have HM := Aside0.mk hm
  have HK := Aside0.mk hk
  have HL := Aside0.mk hl
  have HR := Aside0.mk hr
  unfold RetR
  have hred : w.cell? ⟨(ad.add (k * 68)).block, (ad.add (k * 68)).off + 67, none⟩ = some (.bool (redE x)) := HEF.out.r
  obtain ⟨rd, hrd⟩ : ∃ rd, redE x = rd := ⟨_, rfl⟩
  rw [hrd] at hred ⊢
  obtain ⟨rows, hrl, hrr, hrk⟩ := rows_of hr
  have HRR := Aside0.mk hrr
  have HRL := Aside0.mk hrl
  have HRK := Aside0.mk hrk
  have hcut := ent_mk (cut_mk hC)
  have HKE := Aside0.mk hcut
  have HXL := Aside0.mk (cut_mk hC).len
  have HXO := Aside0.mk (one_of (cut_mk hC).one)
  have HPL := Aside0.mk hC.fp.lenC
  have HCL := Aside0.mk hC.fc.lenC
  have HIP := Aside0.mk hC.fp.blk
  have HIC := Aside0.mk hC.fc.blk
  rw [show cE (cutE x) P C none 0 = cellsE (seqE x) P C 0 none 0 0 true from rfl] at HKE HXL HXO
  have HALL := Aside0.mk (fun V (hV : Below w.heap.size w V) => show V.cell? (ad.add (k * 68)) = some (.int .i64 (seqE x)) ∧ AtC V ((ad.add (k * 68)).add 1) P ∧ AtC V ((ad.add (k * 68)).add 33) C from
    And.intro (HEF.out.below hV).s (And.intro (HEF.out.below hV).fp (HEF.out.below hV).fc))
  obtain ⟨sq, hsq⟩ : ∃ sq, seqE x = sq := ⟨_, rfl⟩
  rw [hsq] at HKE HXL HXO HALL
  have HB := Aside0.mk (Below.refl w.heap.size w)
  clear hl hm hk hc hr hat hC hx hrd hrr hrl hrk hcut hsq
  cases rd with
  | true =>
    rw [if_pos rfl]
    go_enter Try.func16, Try.ntmps16
    go_wp2_with (fail)
    go_ret2
    exact ⟨_, rfl, Rw.nil _ _, Below.refl _ _⟩
  | false =>
    rw [if_neg Bool.false_ne_true]
    go_enter Try.func16, Try.ntmps16
    go_upto_region 6 with (first
      | ((with_reducible refine gate_dst (N := 20) rfl ?_); refine wpList_ent0 rfl rfl ?_; have HO1 := Aside0.mk (own_empty w w.heap.size (Nat.le_refl _)); have HB1 := Aside0.mk (below_alloc HB.out (.cells #[] 27)))
      | ((with_reducible refine gate_builtin (b := .append) (xs := #[.tmp 20, .tmp 21]) rfl ?_); at_builtin; refine Kd.R_append_rows KW (Rr := RawOk) (w0 := w) w.heap.size rfl (.tmp 20) (.tmp 21) 22 27 (.agg Try.zeroCells27) 112 rfl Try.underlying22 info_ent3 rfl (by decide) (by decide) _ [] rows _ m c (fun _ => True) (fun _ => False) rfl rfl HO1.out (by have h := ReadsRow.imp_ HRR.out HB1.out (fun _ _ hp => hp); rw [HL.out] at h; exact h) (fun _ _ h => h) (fun _ h => h.elim) (fun _ _ => trivial) HB1.out HB1.out.size (by have := HM.out; simp; omega) ?_; intro v2 w2 ho hb hg hat; have HO2 := Aside0.mk (show KW.R 27 w2 w.heap.size (fun _ => True) v2 rows from ho); have HB2 := Aside0.mk hb; clear ho hb hg hat))
    obtain ⟨g, cap, hv, _⟩ := Kd.R_form HO2.out (by rw [HRL.out, HL.out]; exact Nat.lt_of_le_of_lt (Nat.zero_le _) HK.out)
    subst hv
    have hO2 := HO2.out
    rw [HRL.out, HL.out] at hO2 ⊢
    have HO3 := Aside0.mk hO2
    have hu24 := Try.underlying23
    clear hO2 HO2 hred
    refine wp_region_held_drew (S := fun V => V.cell? (ad.add (k * 68)) = some (.int .i64 sq) ∧ AtC V ((ad.add (k * 68)).add 1) P ∧ AtC V ((ad.add (k * 68)).add 33) C) (by kernel_rfl) (HALL.out _ (below_drew1 HB2.out)) (fun hHeld => ?_)
    (refine wpAnyH_take (i := 0) (v := ?_) rfl (by kernel_rfl) (by kernel_rfl) (by kernel_rfl) (fun _ _ _ h => h) (Or.inl ⟨by rfl, ?_⟩) (by assumption) ?_; (case' refine_2 => (intro w hSw; go_simp; try with_reducible rfl)); (try simp only [Act.put, List.getElem_toArray, List.getElem_cons_zero, List.getElem_cons_succ, List.setIfInBounds_toArray, List.set_cons_zero, List.set_cons_succ]))
    (refine wpAnyH_take (i := 1) (v := ?_) rfl (by kernel_rfl) (by kernel_rfl) (by kernel_rfl) (fun _ _ _ h => h) (Or.inl ⟨by rfl, ?_⟩) (by assumption) ?_; (case' refine_2 => (intro w hSw; go_simp; try with_reducible rfl)); (try simp only [Act.put, List.getElem_toArray, List.getElem_cons_zero, List.getElem_cons_succ, List.setIfInBounds_toArray, List.set_cons_zero, List.set_cons_succ]))
    (refine wpAnyH_take (i := 2) (v := ?_) rfl (by kernel_rfl) (by kernel_rfl) (by kernel_rfl) (fun _ _ _ h => h) (Or.inl ⟨by rfl, ?_⟩) (by assumption) ?_; (case' refine_2 => (intro w hSw; go_simp; try with_reducible rfl)); (try simp only [Act.put, List.getElem_toArray, List.getElem_cons_zero, List.getElem_cons_succ, List.setIfInBounds_toArray, List.set_cons_zero, List.set_cons_succ]))
    (refine wpAnyH_take (i := 3) (v := ?_) rfl (by kernel_rfl) (by kernel_rfl) (by kernel_rfl) (fun _ _ _ h => h) (Or.inl ⟨by rfl, ?_⟩) (by assumption) ?_; (case' refine_2 => (intro w hSw; go_simp; try with_reducible rfl)); (try simp only [Act.put, List.getElem_toArray, List.getElem_cons_zero, List.getElem_cons_succ, List.setIfInBounds_toArray, List.set_cons_zero, List.set_cons_succ]))
    (refine wpAnyH_take (i := 4) (v := ?_) rfl (by kernel_rfl) (by kernel_rfl) (by kernel_rfl) (fun _ _ _ h => h) (Or.inl ⟨by rfl, ?_⟩) (by assumption) ?_; (case' refine_2 => (intro w hSw; go_simp; try with_reducible rfl)); (try simp only [Act.put, List.getElem_toArray, List.getElem_cons_zero, List.getElem_cons_succ, List.setIfInBounds_toArray, List.set_cons_zero, List.set_cons_succ]))
    (refine wpAnyH_take (i := 5) (v := ?_) rfl (by kernel_rfl) (by kernel_rfl) (by kernel_rfl) (fun _ _ _ h => h) (Or.inl ⟨by rfl, ?_⟩) (by assumption) ?_; (case' refine_2 => (intro w hSw; go_simp; try with_reducible rfl)); (try simp only [Act.put, List.getElem_toArray, List.getElem_cons_zero, List.getElem_cons_succ, List.setIfInBounds_toArray, List.set_cons_zero, List.set_cons_succ]))
    (refine wpAnyH_take (i := 6) (v := ?_) rfl (by kernel_rfl) (by kernel_rfl) (by kernel_rfl) (fun _ _ _ h => h) (Or.inl ⟨by rfl, ?_⟩) (by assumption) ?_; (case' refine_2 => (intro w hSw; go_simp; try with_reducible rfl)); (try simp only [Act.put, List.getElem_toArray, List.getElem_cons_zero, List.getElem_cons_succ, List.setIfInBounds_toArray, List.set_cons_zero, List.set_cons_succ]))
    (refine wpAnyH_take (i := 7) (v := ?_) rfl (by kernel_rfl) (by kernel_rfl) (by kernel_rfl) (fun _ _ _ h => h) (Or.inl ⟨by rfl, ?_⟩) (by assumption) ?_; (case' refine_2 => (intro w hSw; go_simp; try with_reducible rfl)); (try simp only [Act.put, List.getElem_toArray, List.getElem_cons_zero, List.getElem_cons_succ, List.setIfInBounds_toArray, List.set_cons_zero, List.set_cons_succ]))
    (refine wpAnyH_take (i := 8) (v := ?_) rfl (by kernel_rfl) (by kernel_rfl) (by kernel_rfl) (fun _ _ _ h => h) (Or.inl ⟨by rfl, ?_⟩) (by assumption) ?_; (case' refine_2 => (intro w hSw; go_simp; try with_reducible rfl)); (try simp only [Act.put, List.getElem_toArray, List.getElem_cons_zero, List.getElem_cons_succ, List.setIfInBounds_toArray, List.set_cons_zero, List.set_cons_succ]))
    (refine wpAnyH_take (i := 9) (v := ?_) rfl (by kernel_rfl) (by kernel_rfl) (by kernel_rfl) (fun _ _ _ h => h) (Or.inl ⟨by rfl, ?_⟩) (by assumption) ?_; (case' refine_2 => (intro w hSw; go_simp; try with_reducible rfl)); (try simp only [Act.put, List.getElem_toArray, List.getElem_cons_zero, List.getElem_cons_succ, List.setIfInBounds_toArray, List.set_cons_zero, List.set_cons_succ]))
    (refine wpAnyH_take (i := 10) (v := ?_) rfl (by kernel_rfl) (by kernel_rfl) (by kernel_rfl) (fun _ _ _ h => h) (Or.inl ⟨by rfl, ?_⟩) (by assumption) ?_; (case' refine_2 => (intro w hSw; go_simp; try with_reducible rfl)); (try simp only [Act.put, List.getElem_toArray, List.getElem_cons_zero, List.getElem_cons_succ, List.setIfInBounds_toArray, List.set_cons_zero, List.set_cons_succ]))
    (refine wpAnyH_take (i := 11) rfl (by kernel_rfl) (by kernel_rfl) (by kernel_rfl) (fun _ _ _ h => h) (yieldsIf_load_at (by rfl) _ _ rfl ((ad.add (k * 68)).add 1) rfl P _ (fun _ h => h.2.1) (by assumption) rfl HIP.out) (by assumption) ?_; (try simp only [Act.put, List.getElem_toArray, List.getElem_cons_zero, List.getElem_cons_succ, List.setIfInBounds_toArray, List.set_cons_zero, List.set_cons_succ]))
    (refine wpAnyH_take (i := 12) (v := ?_) rfl (by kernel_rfl) (by kernel_rfl) (by kernel_rfl) (fun _ _ _ h => h) (Or.inl ⟨by rfl, ?_⟩) (by assumption) ?_; (case' refine_2 => (intro w hSw; go_simp; try with_reducible rfl)); (try simp only [Act.put, List.getElem_toArray, List.getElem_cons_zero, List.getElem_cons_succ, List.setIfInBounds_toArray, List.set_cons_zero, List.set_cons_succ]))
    (refine wpAnyH_take (i := 13) (v := ?_) rfl (by kernel_rfl) (by kernel_rfl) (by kernel_rfl) (fun _ _ _ h => h) (Or.inl ⟨by rfl, ?_⟩) (by assumption) ?_; (case' refine_2 => (intro w hSw; go_simp; try with_reducible rfl)); (try simp only [Act.put, List.getElem_toArray, List.getElem_cons_zero, List.getElem_cons_succ, List.setIfInBounds_toArray, List.set_cons_zero, List.set_cons_succ]))
    (refine wpAnyH_take (i := 14) (v := ?_) rfl (by kernel_rfl) (by kernel_rfl) (by kernel_rfl) (fun _ _ _ h => h) (Or.inl ⟨by rfl, ?_⟩) (by assumption) ?_; (case' refine_2 => (intro w hSw; go_simp; try with_reducible rfl)); (try simp only [Act.put, List.getElem_toArray, List.getElem_cons_zero, List.getElem_cons_succ, List.setIfInBounds_toArray, List.set_cons_zero, List.set_cons_succ]))
    (refine wpAnyH_take (i := 15) (v := ?_) rfl (by kernel_rfl) (by kernel_rfl) (by kernel_rfl) (fun _ _ _ h => h) (Or.inl ⟨by rfl, ?_⟩) (by assumption) ?_; (case' refine_2 => (intro w hSw; go_simp; try with_reducible rfl)); (try simp only [Act.put, List.getElem_toArray, List.getElem_cons_zero, List.getElem_cons_succ, List.setIfInBounds_toArray, List.set_cons_zero, List.set_cons_succ]))
    (refine wpAnyH_take (i := 16) rfl (by kernel_rfl) (by kernel_rfl) (by kernel_rfl) (fun _ _ _ h => h) (yieldsIf_load_at (by rfl) _ _ rfl ((ad.add (k * 68)).add 33) rfl C _ (fun _ h => h.2.2) (by assumption) rfl HIC.out) (by assumption) ?_; (try simp only [Act.put, List.getElem_toArray, List.getElem_cons_zero, List.getElem_cons_succ, List.setIfInBounds_toArray, List.set_cons_zero, List.set_cons_succ]))
    refine wpAnyH_ready (rs := [17]) (by kernel_rfl) (by simp) (AllReadyH.cons rfl (fun K hK => ?_) AllReadyH.nil)
    rw [if_pos (by rfl)]
    refine wp_cut (.tmp 29) (.tmp 34) (.tmp 39) _ rfl sq P C HPL.out HCL.out rfl rfl rfl rfl ?_
    obtain ⟨X, hX⟩ : ∃ X, cellsE sq P C 0 none 0 0 true = X := ⟨_, rfl⟩
    rw [hX] at HKE HXL HXO ⊢
    clear hX
    (refine Shut.out hK _ _ (HALL.out _ (below_drew1 HB2.out)) (fun hHeld => ?_); clear hK K; (try simp only [Act.put, List.getElem_toArray, List.getElem_cons_zero, List.getElem_cons_succ, List.setIfInBounds_toArray, List.set_cons_zero, List.set_cons_succ]))
    (refine wpAnyH_take (i := 18) (v := ?_) rfl (by kernel_rfl) (by kernel_rfl) (by kernel_rfl) (fun _ _ _ h => h) (Or.inl ⟨by rfl, ?_⟩) (by assumption) ?_; (case' refine_2 => (intro w hSw; go_simp; try with_reducible rfl)); (try simp only [Act.put, List.getElem_toArray, List.getElem_cons_zero, List.getElem_cons_succ, List.setIfInBounds_toArray, List.set_cons_zero, List.set_cons_succ]))
    refine wpAnyH_ready (rs := [19]) (by kernel_rfl) (by simp) (AllReadyH.cons rfl (fun K hK => ?_) AllReadyH.nil)
    rw [if_pos (by rfl)]
    refine wp_putE (w0 := w) (base := w.heap.size) rfl (.tmp 41) (.tmp 40) rfl k rows X rfl (by first | rfl | omega) rfl HXL.out HXO.out (Kd.R_drew HO3.out) HK.out (below_drew1 HB2.out) ?_
    intro w5 ho hb
    have HO5 := Aside0.mk ho
    have HB5 := Aside0.mk hb
    clear ho hb
    (refine Shut.out hK _ _ (HALL.out _ HB5.out) (fun hHeld => ?_); clear hK K; (try simp only [Act.put, List.getElem_toArray, List.getElem_cons_zero, List.getElem_cons_succ, List.setIfInBounds_toArray, List.set_cons_zero, List.set_cons_succ]))
    refine wpAnyH_done (by kernel_rfl) ?_ _
    go_wp2_with (fail)
    go_ret2
    exact ⟨_, rfl, Rw.cut HRL.out HO5.out HRK.out HB5.out HKE.out, HB5.out⟩
end Go.Proofs.Ytfpkgdenohcglaa.Chn
/- The document's Same. -/
namespace Go.Proofs.Ytfpkgdenohcglaa.Chn
set_option linter.unusedVariables false
set_option linter.unusedSimpArgs false
open Go.RowKit Go.Proofs.Ytfpkgdenohcglaa.Base Go.Proofs.Ytfpkgdenohcglaa.TlvPlain Go.Proofs.Ytfpkgdenohcglaa.ShaPlain Go.Proofs.Ytfpkgdenohcglaa.Sha Go.Proofs.Ytfpkgdenohcglaa.Com Go.Proofs.Ytfpkgdenohcglaa.Aid Go.Proofs.YtfpkgdenohcglaaW.PrintWords Go.Proofs.YtfpkgdenohcglaaW.PrintLast Go.Proofs.YtfpkgdenohcglaaW.PrintMore
theorem wp_alloc_e {o : Oper} {a : Act} {Q : Exit → Act → World → Prop} {K : Act → World → Prop} {w : World} (ho : o.op = .alloc 27)
    (h : K (a.put o.dst (.pointer (some ⟨w.heap.size, 0, none⟩))) (w.alloc (.cells zE.toArray 27))) : Oper.wp Try.prog o a w K Q := by
  obtain ⟨i, hi, hz, hs, hb⟩ := info_parts info_ent3
  rw [zE_z] at h
  have hrun : (Instr.alloc 27 true (.tuple #[])).run Try.prog w = .ok (.pointer (some ⟨w.heap.size, 0, none⟩)) (w.alloc (.cells Try.zeroCells27 27)) := by
    simp [Instr.alloc, zeroValue, typeInfo, hi, hz, newVar, newRow, Value.cells]
  unfold Oper.wp execOp
  simp only [ho, Sem.run_bind, hrun, Result.andThen_ok]
  exact h
theorem ent_ext {x y : Ent} (h0 : seqE x = seqE y) (h1 : prevE x = prevE y) (h2 : comE x = comE y) (h3 : saltE x = saltE y) (h4 : redE x = redE y) (h5 : payE x = payE y) : x = y :=
  Prod.ext h0 (Prod.ext h1 (Prod.ext h2 (Prod.ext h3 (Prod.ext h5 h4))))
set_option maxHeartbeats 4000000 in
set_option maxRecDepth 100000 in
theorem esame_c (a b : List Ent) (A0 A1 : Option Addr) (c0 c1 : Nat) (w : World) (h0 : Re w A0 a) (h1 : Re w A1 b) (hl : a.length ≤ 1000000) (hl2 : b.length ≤ 1000000) (hs : ∀ x ∈ a, (payE x).length ≤ 1000000) (ha : Lu' a) (hb : Lu' b) :
    Calls Try.prog 20 #[.slice A0 a.length c0, .slice A1 b.length c1] w (RetB w (decide (a = b))) := by
  unfold RetB
  have H0 := Aside0.mk h0
  have H1 := Aside0.mk h1
  have HS := Aside0.mk (And.intro hs (And.intro ha hb))
  have HB := Aside0.mk (Below.refl w.heap.size w)
  by_cases hn : a.length = b.length
  · obtain ⟨m, hm⟩ : ∃ m, a.length = m := ⟨_, rfl⟩
    have hm2 : b.length = m := by omega
    rw [hm, hm2]
    have HM := Aside0.mk hm
    have HM2 := Aside0.mk hm2
    rw [hm] at hl
    have q0 : (m : Int) ≤ 1000000 := by omega
    have q1 : ((m : Int) != (m : Int)) = false := by simp
    clear h0 h1 hn hm hm2 hl2 hl hs ha hb
    go_enter Try.func20, Try.ntmps20
    go_wp2_with (fail)
    go_loopw [5, 6, 7] (fun i _ _ wr => ∃ k : Nat, k ≤ m ∧ i = .int .i64 k ∧ Aside0 (a.take k = b.take k) ∧ Below w.heap.size w wr) (fun i _ _ _ => m - (intOf i).toNat)
    case atStart => exact ⟨0, Nat.zero_le _, rfl, ⟨rfl⟩, HB.out⟩
    case round =>
      clear HB
      obtain ⟨k, hk, rfl, HTK, hb⟩ := hrel
      have HB := Aside0.mk hb
      clear hb
      obtain ⟨W, hwy⟩ : ∃ wy, wy = wr := ⟨_, rfl⟩
      subst hwy
      by_cases hlt : k < m
      · have hka : k < a.length := by have := HM.out; omega
        have hkb : k < b.length := by have := HM2.out; omega
        obtain ⟨ad0, P, C, B, cb, rfl, hat, hC⟩ := re_at H0.out k hka
        obtain ⟨ad1, P', C', B', cb', rfl, hat', hC'⟩ := re_at H1.out k hkb
        have hEx := HS.out.2.1 _ (List.getElem_mem hka)
        have hEy := HS.out.2.2 _ (List.getElem_mem hkb)
        have hpl := HS.out.1 _ (List.getElem_mem hka)
        have HX := Aside0.mk (take_snoc a k hka)
        have HY := Aside0.mk (take_snoc b k hkb)
        have hgx : a[k]? = some a[k] := List.getElem?_eq_getElem hka
        have hgy : b[k]? = some b[k] := List.getElem?_eq_getElem hkb
        obtain ⟨x, hxx⟩ : ∃ x, a[k] = x := ⟨_, rfl⟩
        obtain ⟨y, hyy⟩ : ∃ y, b[k] = y := ⟨_, rfl⟩
        rw [hxx] at hat hC hEx hpl HX hgx
        rw [hyy] at hat' hC' hEy HY hgy
        have HNE := Aside0.mk (fun (h : x ≠ y) => show a ≠ b from fun e => h (Option.some.inj (hgx.symm.trans ((congrArg (fun l => l[k]?) e).trans hgy))))
        have HSM := Aside0.mk (fun V (hV : Below w.heap.size w V) => Lo.same_c B cb (payE x) B' cb' (payE y) V (Kd.C_below hC.r hV) hC.hc (Kd.C_below hC'.r hV) hC'.hc (by omega))
        have HP := Aside0.mk (run_eq_sum (prevE x) (prevE y) hEx.pl hEy.pl)
        have HC := Aside0.mk (run_eq_sum (comE x) (comE y) hEx.cl hEy.cl)
        rw [hC.fp.v, hC'.fp.v] at HP
        rw [hC.fc.v, hC'.fc.v] at HC
        have HI := Aside0.mk (And.intro hC.fp.blk (And.intro hC.fc.blk (And.intro hC'.fp.blk hC'.fc.blk)))
        obtain ⟨bp, hbp⟩ : ∃ v, decide (prevE x = prevE y) = v := ⟨_, rfl⟩
        obtain ⟨bc, hbc⟩ : ∃ v, decide (comE x = comE y) = v := ⟨_, rfl⟩
        obtain ⟨by_, hby⟩ : ∃ v, decide (payE x = payE y) = v := ⟨_, rfl⟩
        rw [hbp] at HP
        rw [hbc] at HC
        rw [hby] at HSM
        have HBP := Aside0.mk hbp
        have HBC := Aside0.mk hbc
        have HBY := Aside0.mk hby
        have HMK := Aside0.mk (fun (V : World) (g6 g7 : Nat) (h6 : V.heap[g6]? = some (.cells (cE x P C B cb).toArray 27 (0, 0))) (h7 : V.heap[g7]? = some (.cells (cE y P' C' B' cb').toArray 27 (0, 0))) =>
          And.intro (entAt_blk hC.fp.lenC hC.fc.lenC h6) (entAt_blk hC'.fp.lenC hC'.fc.lenC h7))
        have HIX := Aside0.mk (show (Try.prog.info? 27).map (·.size) = some (cE x P C B cb).toArray.size from by rw [List.size_toArray]; exact hC.info)
        have HIY := Aside0.mk (show (Try.prog.info? 27).map (·.size) = some (cE y P' C' B' cb').toArray.size from by rw [List.size_toArray]; exact hC'.info)
        have HIXL := Aside0.mk hC.info
        have HIYL := Aside0.mk hC'.info
        have HOX := Aside0.mk hC.one
        have HOY := Aside0.mk hC'.one
        have HXL := Aside0.mk hC.len
        have HYL := Aside0.mk hC'.len
        have HALL := Aside0.mk (fun V (hV : Below W.heap.size W V) => show AtC V (ad0.add (k * 68)) (cE x P C B cb) ∧ AtC V (ad1.add (k * 68)) (cE y P' C' B' cb') from And.intro ((hat.below HB.out).below hV) ((hat'.below HB.out).below hV))
        obtain ⟨X, hX⟩ : ∃ X, cE x P C B cb = X := ⟨_, rfl⟩
        obtain ⟨Y, hY⟩ : ∃ Y, cE y P' C' B' cb' = Y := ⟨_, rfl⟩
        rw [hX] at HMK HIX HIXL HOX HXL HALL
        rw [hY] at HMK HIY HIYL HOY HYL HALL
        have hk0 : (0 : Int) ≤ (k : Int) := by omega
        have hk1 : (k : Int) < (m : Int) := by omega
        have hguard := guard_32
        have hu24 := Try.underlying23
        have hu27 := Try.underlying27
        have HK := Aside0.mk hlt
        clear hat hat' hC hC' hEx hEy hpl hgx hgy hxx hyy hbp hbc hby hX hY hlt hk hka hkb
        go_wp2_with (fail)
        refine wp_region_held_drew (S := fun w' => AtC w' (ad0.add (k * 68)) X ∧ AtC w' (ad1.add (k * 68)) Y) (by kernel_rfl) (HALL.out _ (below_drew1 (Below.refl _ _))) (fun hHeld => ?_)
        (refine wpAnyH_take (i := 0) (v := ?_) rfl (by kernel_rfl) (by kernel_rfl) (by kernel_rfl) (fun _ _ _ h => h) (Or.inl ⟨by rfl, ?_⟩) (by assumption) ?_; (case' refine_2 => (intro w hSw; go_simp; try with_reducible rfl)); (try simp only [Act.put, List.getElem_toArray, List.getElem_cons_zero, List.getElem_cons_succ, List.setIfInBounds_toArray, List.set_cons_zero, List.set_cons_succ]))
        (refine wpAnyH_take (i := 1) (v := ?_) rfl (by kernel_rfl) (by kernel_rfl) (by kernel_rfl) (fun _ _ _ h => h) (Or.inl ⟨by rfl, ?_⟩) (by assumption) ?_; (case' refine_2 => (intro w hSw; go_simp; try with_reducible rfl)); (try simp only [Act.put, List.getElem_toArray, List.getElem_cons_zero, List.getElem_cons_succ, List.setIfInBounds_toArray, List.set_cons_zero, List.set_cons_succ]))
        (refine wpAnyH_take (i := 2) (v := ?_) rfl (by kernel_rfl) (by kernel_rfl) (by kernel_rfl) (fun _ _ _ h => h) (Or.inl ⟨by rfl, ?_⟩) (by assumption) ?_; (case' refine_2 => (intro w hSw; go_simp; try with_reducible rfl)); (try simp only [Act.put, List.getElem_toArray, List.getElem_cons_zero, List.getElem_cons_succ, List.setIfInBounds_toArray, List.set_cons_zero, List.set_cons_succ]))
        (refine wpAnyH_take (i := 3) rfl (by kernel_rfl) (by kernel_rfl) (by kernel_rfl) (fun _ _ _ h => h) (yieldsIf_load_at (by rfl) _ _ rfl (ad0.add (k * 68)) rfl X _ (fun _ h => h.1) (by assumption) rfl HIXL.out) (by assumption) ?_; (try simp only [Act.put, List.getElem_toArray, List.getElem_cons_zero, List.getElem_cons_succ, List.setIfInBounds_toArray, List.set_cons_zero, List.set_cons_succ]))
        (refine wpAnyH_take (i := 4) (v := ?_) rfl (by kernel_rfl) (by kernel_rfl) (by kernel_rfl) (fun _ _ _ h => h) (Or.inl ⟨by rfl, ?_⟩) (by assumption) ?_; (case' refine_2 => (intro w hSw; go_simp; try with_reducible rfl)); (try simp only [Act.put, List.getElem_toArray, List.getElem_cons_zero, List.getElem_cons_succ, List.setIfInBounds_toArray, List.set_cons_zero, List.set_cons_succ]))
        (refine wpAnyH_take (i := 5) (v := ?_) rfl (by kernel_rfl) (by kernel_rfl) (by kernel_rfl) (fun _ _ _ h => h) (Or.inl ⟨by rfl, ?_⟩) (by assumption) ?_; (case' refine_2 => (intro w hSw; go_simp; try with_reducible rfl)); (try simp only [Act.put, List.getElem_toArray, List.getElem_cons_zero, List.getElem_cons_succ, List.setIfInBounds_toArray, List.set_cons_zero, List.set_cons_succ]))
        (refine wpAnyH_take (i := 6) (v := ?_) rfl (by kernel_rfl) (by kernel_rfl) (by kernel_rfl) (fun _ _ _ h => h) (Or.inl ⟨by rfl, ?_⟩) (by assumption) ?_; (case' refine_2 => (intro w hSw; go_simp; try with_reducible rfl)); (try simp only [Act.put, List.getElem_toArray, List.getElem_cons_zero, List.getElem_cons_succ, List.setIfInBounds_toArray, List.set_cons_zero, List.set_cons_succ]))
        (refine wpAnyH_take (i := 7) rfl (by kernel_rfl) (by kernel_rfl) (by kernel_rfl) (fun _ _ _ h => h) (yieldsIf_load_at (by rfl) _ _ rfl (ad1.add (k * 68)) rfl Y _ (fun _ h => h.2) (by assumption) rfl HIYL.out) (by assumption) ?_; (try simp only [Act.put, List.getElem_toArray, List.getElem_cons_zero, List.getElem_cons_succ, List.setIfInBounds_toArray, List.set_cons_zero, List.set_cons_succ]))
        refine wpAnyH_ready (rs := [8, 9]) (by kernel_rfl) (by simp) (AllReadyH.cons rfl (fun K hK => ?_) (AllReadyH.cons rfl (fun K hK => ?_) AllReadyH.nil))
        · rw [if_pos (by rfl)]
          refine wp_alloc_e rfl ?_
          have HBa := Aside0.mk (below_alloc (below_drew1 (Below.refl W.heap.size W)) (.cells zE.toArray 27))
          (refine Shut.out hK _ _ (HALL.out _ HBa.out) (fun hHeld => ?_); clear hK K; (try simp only [Act.put, List.getElem_toArray, List.getElem_cons_zero, List.getElem_cons_succ, List.setIfInBounds_toArray, List.set_cons_zero, List.set_cons_succ]))
          refine wpAnyH_ready (rs := [9]) (by kernel_rfl) (by simp) (AllReadyH.cons rfl (fun K hK => ?_) AllReadyH.nil)
          rw [if_pos (by rfl)]
          refine wp_alloc_e rfl ?_
          have HBb := Aside0.mk (below_alloc HBa.out (.cells zE.toArray 27))
          have HYa := Aside0.mk (show (((W.drew.alloc (.cells zE.toArray 27)).alloc (.cells zE.toArray 27))).heap[W.drew.heap.size]? = some (.cells zE.toArray 27 (0, 0)) from blk_alloc (blk_new _ _) _)
          have HYb := Aside0.mk (show (((W.drew.alloc (.cells zE.toArray 27)).alloc (.cells zE.toArray 27))).heap[(W.drew.alloc (.cells zE.toArray 27)).heap.size]? = some (.cells zE.toArray 27 (0, 0)) from blk_new _ _)
          have HNab := Aside0.mk (show W.drew.heap.size ≠ (W.drew.alloc (.cells zE.toArray 27)).heap.size from by simp [World.alloc])
          have HGa := Aside0.mk (show W.heap.size ≤ W.drew.heap.size from Nat.le_refl _)
          have HGb := Aside0.mk (show W.heap.size ≤ (W.drew.alloc (.cells zE.toArray 27)).heap.size from by simp [World.alloc])
          obtain ⟨w2, hw2⟩ : ∃ V, ((W.drew.alloc (.cells zE.toArray 27)).alloc (.cells zE.toArray 27)) = V := ⟨_, rfl⟩
          obtain ⟨g6, hg6⟩ : ∃ g, W.drew.heap.size = g := ⟨_, rfl⟩
          obtain ⟨g7, hg7⟩ : ∃ g, (W.drew.alloc (.cells zE.toArray 27)).heap.size = g := ⟨_, rfl⟩
          rw [hw2] at HBb HYa HYb ⊢
          rw [hg6] at HYa HNab HGa ⊢
          rw [hg7] at HYb HNab HGb ⊢
          have HN67 := Aside0.mk (show g7 ≠ g6 from HNab.out.symm)
          clear hw2 hg6 hg7 HNab
          (refine Shut.out hK _ _ (HALL.out _ HBb.out) (fun hHeld => ?_); clear hK K; (try simp only [Act.put, List.getElem_toArray, List.getElem_cons_zero, List.getElem_cons_succ, List.setIfInBounds_toArray, List.set_cons_zero, List.set_cons_succ]))
          refine wpAnyH_ready (rs := [10]) (by kernel_rfl) (by simp) (AllReadyH.cons rfl (fun K hK => ?_) AllReadyH.nil)
          rw [if_pos (by rfl)]
          refine wp_store_row 27 (.tmp 6) (.tmp 22) rfl g6 X.toArray rfl rfl 27 zE.toArray HYa.out HIX.out (by rw [List.size_toArray, List.size_toArray, zE_len, HXL.out]) HOX.out ?_
          have HBc := Aside0.mk (below_setRow HBb.out HGa.out X.toArray)
          have HYc := Aside0.mk ((setRow_other w2 g6 g7 X.toArray HN67.out).trans HYb.out)
          have HXc := Aside0.mk (setRow_heap w2 g6 zE.toArray X.toArray _ _ HYa.out)
          obtain ⟨w3, hw3⟩ : ∃ V, w2.setRow g6 X.toArray = V := ⟨_, rfl⟩
          rw [hw3] at HBc HYc HXc ⊢
          clear hw3
          (refine Shut.out hK _ _ (HALL.out _ HBc.out) (fun hHeld => ?_); clear hK K; (try simp only [Act.put, List.getElem_toArray, List.getElem_cons_zero, List.getElem_cons_succ, List.setIfInBounds_toArray, List.set_cons_zero, List.set_cons_succ]))
          refine wpAnyH_ready (rs := [11]) (by kernel_rfl) (by simp) (AllReadyH.cons rfl (fun K hK => ?_) AllReadyH.nil)
          rw [if_pos (by rfl)]
          refine wp_store_row 27 (.tmp 7) (.tmp 26) rfl g7 Y.toArray rfl rfl 27 zE.toArray HYc.out HIY.out (by rw [List.size_toArray, List.size_toArray, zE_len, HYL.out]) HOY.out ?_
          have HBd := Aside0.mk (below_setRow HBc.out HGb.out Y.toArray)
          have HXd := Aside0.mk ((setRow_other w3 g7 g6 Y.toArray HN67.out.symm).trans HXc.out)
          have HYd := Aside0.mk (setRow_heap w3 g7 zE.toArray Y.toArray _ _ HYc.out)
          obtain ⟨w4, hw4⟩ : ∃ V, w3.setRow g7 Y.toArray = V := ⟨_, rfl⟩
          rw [hw4] at HBd HYd HXd ⊢
          clear hw4
          (refine Shut.out hK _ _ (HALL.out _ HBd.out) (fun hHeld => ?_); clear hK K; (try simp only [Act.put, List.getElem_toArray, List.getElem_cons_zero, List.getElem_cons_succ, List.setIfInBounds_toArray, List.set_cons_zero, List.set_cons_succ]))
          refine wpAnyH_done (by kernel_rfl) ?_ _
          have HE := Aside0.mk (HMK.out w4 g6 g7 HXd.out HYd.out)
          have HB4 := Aside0.mk (below_step HB.out HBd.out)
          have hs1 := HE.out.1.s
          have hs2 := HE.out.1.sl
          have hs3 := HE.out.1.py
          have hs4 := HE.out.1.r
          have ht1 := HE.out.2.s
          have ht2 := HE.out.2.sl
          have ht3 := HE.out.2.py
          have ht4 := HE.out.2.r
          obtain ⟨s1, es1⟩ : ∃ v, seqE x = v := ⟨_, rfl⟩
          obtain ⟨t1, et1⟩ : ∃ v, seqE y = v := ⟨_, rfl⟩
          obtain ⟨s2, es2⟩ : ∃ v, saltE x = v := ⟨_, rfl⟩
          obtain ⟨t2, et2⟩ : ∃ v, saltE y = v := ⟨_, rfl⟩
          obtain ⟨s4, es4⟩ : ∃ v, redE x = v := ⟨_, rfl⟩
          obtain ⟨t4, et4⟩ : ∃ v, redE y = v := ⟨_, rfl⟩
          rw [es1] at hs1
          rw [et1] at ht1
          rw [es2] at hs2
          rw [et2] at ht2
          rw [es4] at hs4
          rw [et4] at ht4
          have ES1 := Aside0.mk es1
          have ET1 := Aside0.mk et1
          have ES2 := Aside0.mk es2
          have ET2 := Aside0.mk et2
          have ES4 := Aside0.mk es4
          have ET4 := Aside0.mk et4
          clear es1 et1 es2 et2 es4 et4
          by_cases c1 : s1 = t1
          · have C1 := Aside0.mk c1
            have r1 : (s1 != t1) = false := by simp [c1]
            clear c1
            have hp := HP.out
            have hq := HC.out
            cases bp with
            | false =>
              clear hq
              go_wp2_with (first
                | ((with_reducible refine gate_dst (N := 34) rfl ?_); (try (refine gate_guard (by rfl) ?_; dsimp only)); refine wpList_load_at rfl 23 (.tmp 33) rfl _ rfl P _ HE.out.1.fp Try.underlying23 rfl HI.out.1 ?_)
                | ((with_reducible refine gate_dst (N := 36) rfl ?_); (try (refine gate_guard (by rfl) ?_; dsimp only)); refine wpList_load_at rfl 23 (.tmp 35) rfl _ rfl P' _ HE.out.2.fp Try.underlying23 rfl HI.out.2.2.1 ?_)
                | ((with_reducible refine gate_dst (N := 41) rfl ?_); (try (refine gate_guard (by rfl) ?_; dsimp only)); refine wpList_load_at rfl 23 (.tmp 40) rfl _ rfl C _ HE.out.1.fc Try.underlying23 rfl HI.out.2.1 ?_)
                | ((with_reducible refine gate_dst (N := 43) rfl ?_); (try (refine gate_guard (by rfl) ?_; dsimp only)); refine wpList_load_at rfl 23 (.tmp 42) rfl _ rfl C' _ HE.out.2.fc Try.underlying23 rfl HI.out.2.2.2 ?_)
                | (go_at_call 23; refine (HSM.out _ HB4.out).mono ?_; rintro e w9 ⟨rfl, hd⟩; have HB9 := Aside0.mk (below_step HB4.out (Drawn0.below hd)); clear hd))
              go_ret
              exact ⟨congrArg (fun b => Ending.returned (Value.bool b)) (decide_eq_false (HNE.out (fun e => of_decide_eq_false HBP.out (congrArg prevE e)))).symm, HB4.out⟩
            | true =>
              cases bc with
              | false =>
                go_wp2_with (first
                  | ((with_reducible refine gate_dst (N := 34) rfl ?_); (try (refine gate_guard (by rfl) ?_; dsimp only)); refine wpList_load_at rfl 23 (.tmp 33) rfl _ rfl P _ HE.out.1.fp Try.underlying23 rfl HI.out.1 ?_)
                  | ((with_reducible refine gate_dst (N := 36) rfl ?_); (try (refine gate_guard (by rfl) ?_; dsimp only)); refine wpList_load_at rfl 23 (.tmp 35) rfl _ rfl P' _ HE.out.2.fp Try.underlying23 rfl HI.out.2.2.1 ?_)
                  | ((with_reducible refine gate_dst (N := 41) rfl ?_); (try (refine gate_guard (by rfl) ?_; dsimp only)); refine wpList_load_at rfl 23 (.tmp 40) rfl _ rfl C _ HE.out.1.fc Try.underlying23 rfl HI.out.2.1 ?_)
                  | ((with_reducible refine gate_dst (N := 43) rfl ?_); (try (refine gate_guard (by rfl) ?_; dsimp only)); refine wpList_load_at rfl 23 (.tmp 42) rfl _ rfl C' _ HE.out.2.fc Try.underlying23 rfl HI.out.2.2.2 ?_)
                  | (go_at_call 23; refine (HSM.out _ HB4.out).mono ?_; rintro e w9 ⟨rfl, hd⟩; have HB9 := Aside0.mk (below_step HB4.out (Drawn0.below hd)); clear hd))
                go_ret
                exact ⟨congrArg (fun b => Ending.returned (Value.bool b)) (decide_eq_false (HNE.out (fun e => of_decide_eq_false HBC.out (congrArg comE e)))).symm, HB4.out⟩
              | true =>
                by_cases c2 : s2 = t2
                · have C2 := Aside0.mk c2
                  have r2 : (s2 != t2) = false := by simp [c2]
                  clear c2
                  by_cases c4 : s4 = t4
                  · have C4 := Aside0.mk c4
                    subst c4
                    cases s4
                    · cases by_ with
                      | false =>
                        go_wp2_with (first
                          | ((with_reducible refine gate_dst (N := 34) rfl ?_); (try (refine gate_guard (by rfl) ?_; dsimp only)); refine wpList_load_at rfl 23 (.tmp 33) rfl _ rfl P _ HE.out.1.fp Try.underlying23 rfl HI.out.1 ?_)
                          | ((with_reducible refine gate_dst (N := 36) rfl ?_); (try (refine gate_guard (by rfl) ?_; dsimp only)); refine wpList_load_at rfl 23 (.tmp 35) rfl _ rfl P' _ HE.out.2.fp Try.underlying23 rfl HI.out.2.2.1 ?_)
                          | ((with_reducible refine gate_dst (N := 41) rfl ?_); (try (refine gate_guard (by rfl) ?_; dsimp only)); refine wpList_load_at rfl 23 (.tmp 40) rfl _ rfl C _ HE.out.1.fc Try.underlying23 rfl HI.out.2.1 ?_)
                          | ((with_reducible refine gate_dst (N := 43) rfl ?_); (try (refine gate_guard (by rfl) ?_; dsimp only)); refine wpList_load_at rfl 23 (.tmp 42) rfl _ rfl C' _ HE.out.2.fc Try.underlying23 rfl HI.out.2.2.2 ?_)
                          | (go_at_call 23; refine (HSM.out _ HB4.out).mono ?_; rintro e w9 ⟨rfl, hd⟩; have HB9 := Aside0.mk (below_step HB4.out (Drawn0.below hd)); clear hd))
                        go_ret
                        exact ⟨congrArg (fun b => Ending.returned (Value.bool b)) (decide_eq_false (HNE.out (fun e => of_decide_eq_false HBY.out (congrArg payE e)))).symm, HB9.out⟩
                      | true =>
                        have HEQ := Aside0.mk (show a.take (k + 1) = b.take (k + 1) from by
                          rw [HX.out, HY.out, HTK.out, ent_ext (x := x) (y := y) (by rw [ES1.out, ET1.out]; exact C1.out) (of_decide_eq_true HBP.out) (of_decide_eq_true HBC.out) (by rw [ES2.out, ET2.out]; exact C2.out) (by rw [ES4.out, ET4.out]) (of_decide_eq_true HBY.out)])
                        go_wp2_with (first
                          | ((with_reducible refine gate_dst (N := 34) rfl ?_); (try (refine gate_guard (by rfl) ?_; dsimp only)); refine wpList_load_at rfl 23 (.tmp 33) rfl _ rfl P _ HE.out.1.fp Try.underlying23 rfl HI.out.1 ?_)
                          | ((with_reducible refine gate_dst (N := 36) rfl ?_); (try (refine gate_guard (by rfl) ?_; dsimp only)); refine wpList_load_at rfl 23 (.tmp 35) rfl _ rfl P' _ HE.out.2.fp Try.underlying23 rfl HI.out.2.2.1 ?_)
                          | ((with_reducible refine gate_dst (N := 41) rfl ?_); (try (refine gate_guard (by rfl) ?_; dsimp only)); refine wpList_load_at rfl 23 (.tmp 40) rfl _ rfl C _ HE.out.1.fc Try.underlying23 rfl HI.out.2.1 ?_)
                          | ((with_reducible refine gate_dst (N := 43) rfl ?_); (try (refine gate_guard (by rfl) ?_; dsimp only)); refine wpList_load_at rfl 23 (.tmp 42) rfl _ rfl C' _ HE.out.2.fc Try.underlying23 rfl HI.out.2.2.2 ?_)
                          | (go_at_call 23; refine (HSM.out _ HB4.out).mono ?_; rintro e w9 ⟨rfl, hd⟩; have HB9 := Aside0.mk (below_step HB4.out (Drawn0.below hd)); clear hd))
                        go_roundw
                        case rel => exact ⟨k + 1, by have := HK.out; omega, by go_num, HEQ, HB9.out⟩
                        case measure => have := HK.out; simp [intOf]; omega
                    · cases by_ with
                      | false =>
                        go_wp2_with (first
                          | ((with_reducible refine gate_dst (N := 34) rfl ?_); (try (refine gate_guard (by rfl) ?_; dsimp only)); refine wpList_load_at rfl 23 (.tmp 33) rfl _ rfl P _ HE.out.1.fp Try.underlying23 rfl HI.out.1 ?_)
                          | ((with_reducible refine gate_dst (N := 36) rfl ?_); (try (refine gate_guard (by rfl) ?_; dsimp only)); refine wpList_load_at rfl 23 (.tmp 35) rfl _ rfl P' _ HE.out.2.fp Try.underlying23 rfl HI.out.2.2.1 ?_)
                          | ((with_reducible refine gate_dst (N := 41) rfl ?_); (try (refine gate_guard (by rfl) ?_; dsimp only)); refine wpList_load_at rfl 23 (.tmp 40) rfl _ rfl C _ HE.out.1.fc Try.underlying23 rfl HI.out.2.1 ?_)
                          | ((with_reducible refine gate_dst (N := 43) rfl ?_); (try (refine gate_guard (by rfl) ?_; dsimp only)); refine wpList_load_at rfl 23 (.tmp 42) rfl _ rfl C' _ HE.out.2.fc Try.underlying23 rfl HI.out.2.2.2 ?_)
                          | (go_at_call 23; refine (HSM.out _ HB4.out).mono ?_; rintro e w9 ⟨rfl, hd⟩; have HB9 := Aside0.mk (below_step HB4.out (Drawn0.below hd)); clear hd))
                        go_ret
                        exact ⟨congrArg (fun b => Ending.returned (Value.bool b)) (decide_eq_false (HNE.out (fun e => of_decide_eq_false HBY.out (congrArg payE e)))).symm, HB9.out⟩
                      | true =>
                        have HEQ := Aside0.mk (show a.take (k + 1) = b.take (k + 1) from by
                          rw [HX.out, HY.out, HTK.out, ent_ext (x := x) (y := y) (by rw [ES1.out, ET1.out]; exact C1.out) (of_decide_eq_true HBP.out) (of_decide_eq_true HBC.out) (by rw [ES2.out, ET2.out]; exact C2.out) (by rw [ES4.out, ET4.out]) (of_decide_eq_true HBY.out)])
                        go_wp2_with (first
                          | ((with_reducible refine gate_dst (N := 34) rfl ?_); (try (refine gate_guard (by rfl) ?_; dsimp only)); refine wpList_load_at rfl 23 (.tmp 33) rfl _ rfl P _ HE.out.1.fp Try.underlying23 rfl HI.out.1 ?_)
                          | ((with_reducible refine gate_dst (N := 36) rfl ?_); (try (refine gate_guard (by rfl) ?_; dsimp only)); refine wpList_load_at rfl 23 (.tmp 35) rfl _ rfl P' _ HE.out.2.fp Try.underlying23 rfl HI.out.2.2.1 ?_)
                          | ((with_reducible refine gate_dst (N := 41) rfl ?_); (try (refine gate_guard (by rfl) ?_; dsimp only)); refine wpList_load_at rfl 23 (.tmp 40) rfl _ rfl C _ HE.out.1.fc Try.underlying23 rfl HI.out.2.1 ?_)
                          | ((with_reducible refine gate_dst (N := 43) rfl ?_); (try (refine gate_guard (by rfl) ?_; dsimp only)); refine wpList_load_at rfl 23 (.tmp 42) rfl _ rfl C' _ HE.out.2.fc Try.underlying23 rfl HI.out.2.2.2 ?_)
                          | (go_at_call 23; refine (HSM.out _ HB4.out).mono ?_; rintro e w9 ⟨rfl, hd⟩; have HB9 := Aside0.mk (below_step HB4.out (Drawn0.below hd)); clear hd))
                        go_roundw
                        case rel => exact ⟨k + 1, by have := HK.out; omega, by go_num, HEQ, HB9.out⟩
                        case measure => have := HK.out; simp [intOf]; omega
                  · have C4 := Aside0.mk c4
                    obtain ⟨rfl, rfl⟩ | ⟨rfl, rfl⟩ : (s4 = true ∧ t4 = false) ∨ (s4 = false ∧ t4 = true) := by cases s4 <;> cases t4 <;> simp_all
                    · clear c4
                      go_wp2_with (first
                        | ((with_reducible refine gate_dst (N := 34) rfl ?_); (try (refine gate_guard (by rfl) ?_; dsimp only)); refine wpList_load_at rfl 23 (.tmp 33) rfl _ rfl P _ HE.out.1.fp Try.underlying23 rfl HI.out.1 ?_)
                        | ((with_reducible refine gate_dst (N := 36) rfl ?_); (try (refine gate_guard (by rfl) ?_; dsimp only)); refine wpList_load_at rfl 23 (.tmp 35) rfl _ rfl P' _ HE.out.2.fp Try.underlying23 rfl HI.out.2.2.1 ?_)
                        | ((with_reducible refine gate_dst (N := 41) rfl ?_); (try (refine gate_guard (by rfl) ?_; dsimp only)); refine wpList_load_at rfl 23 (.tmp 40) rfl _ rfl C _ HE.out.1.fc Try.underlying23 rfl HI.out.2.1 ?_)
                        | ((with_reducible refine gate_dst (N := 43) rfl ?_); (try (refine gate_guard (by rfl) ?_; dsimp only)); refine wpList_load_at rfl 23 (.tmp 42) rfl _ rfl C' _ HE.out.2.fc Try.underlying23 rfl HI.out.2.2.2 ?_)
                        | (go_at_call 23; refine (HSM.out _ HB4.out).mono ?_; rintro e w9 ⟨rfl, hd⟩; have HB9 := Aside0.mk (below_step HB4.out (Drawn0.below hd)); clear hd))
                      go_ret
                      exact ⟨congrArg (fun b => Ending.returned (Value.bool b)) (decide_eq_false (HNE.out (fun e => C4.out (by rw [← ES4.out, ← ET4.out, e])))).symm, HB4.out⟩
                    · clear c4
                      go_wp2_with (first
                        | ((with_reducible refine gate_dst (N := 34) rfl ?_); (try (refine gate_guard (by rfl) ?_; dsimp only)); refine wpList_load_at rfl 23 (.tmp 33) rfl _ rfl P _ HE.out.1.fp Try.underlying23 rfl HI.out.1 ?_)
                        | ((with_reducible refine gate_dst (N := 36) rfl ?_); (try (refine gate_guard (by rfl) ?_; dsimp only)); refine wpList_load_at rfl 23 (.tmp 35) rfl _ rfl P' _ HE.out.2.fp Try.underlying23 rfl HI.out.2.2.1 ?_)
                        | ((with_reducible refine gate_dst (N := 41) rfl ?_); (try (refine gate_guard (by rfl) ?_; dsimp only)); refine wpList_load_at rfl 23 (.tmp 40) rfl _ rfl C _ HE.out.1.fc Try.underlying23 rfl HI.out.2.1 ?_)
                        | ((with_reducible refine gate_dst (N := 43) rfl ?_); (try (refine gate_guard (by rfl) ?_; dsimp only)); refine wpList_load_at rfl 23 (.tmp 42) rfl _ rfl C' _ HE.out.2.fc Try.underlying23 rfl HI.out.2.2.2 ?_)
                        | (go_at_call 23; refine (HSM.out _ HB4.out).mono ?_; rintro e w9 ⟨rfl, hd⟩; have HB9 := Aside0.mk (below_step HB4.out (Drawn0.below hd)); clear hd))
                      go_ret
                      exact ⟨congrArg (fun b => Ending.returned (Value.bool b)) (decide_eq_false (HNE.out (fun e => C4.out (by rw [← ES4.out, ← ET4.out, e])))).symm, HB4.out⟩
                · have C2 := Aside0.mk c2
                  have r2 : (s2 != t2) = true := by simp [c2]
                  clear c2
                  go_wp2_with (first
                    | ((with_reducible refine gate_dst (N := 34) rfl ?_); (try (refine gate_guard (by rfl) ?_; dsimp only)); refine wpList_load_at rfl 23 (.tmp 33) rfl _ rfl P _ HE.out.1.fp Try.underlying23 rfl HI.out.1 ?_)
                    | ((with_reducible refine gate_dst (N := 36) rfl ?_); (try (refine gate_guard (by rfl) ?_; dsimp only)); refine wpList_load_at rfl 23 (.tmp 35) rfl _ rfl P' _ HE.out.2.fp Try.underlying23 rfl HI.out.2.2.1 ?_)
                    | ((with_reducible refine gate_dst (N := 41) rfl ?_); (try (refine gate_guard (by rfl) ?_; dsimp only)); refine wpList_load_at rfl 23 (.tmp 40) rfl _ rfl C _ HE.out.1.fc Try.underlying23 rfl HI.out.2.1 ?_)
                    | ((with_reducible refine gate_dst (N := 43) rfl ?_); (try (refine gate_guard (by rfl) ?_; dsimp only)); refine wpList_load_at rfl 23 (.tmp 42) rfl _ rfl C' _ HE.out.2.fc Try.underlying23 rfl HI.out.2.2.2 ?_)
                    | (go_at_call 23; refine (HSM.out _ HB4.out).mono ?_; rintro e w9 ⟨rfl, hd⟩; have HB9 := Aside0.mk (below_step HB4.out (Drawn0.below hd)); clear hd))
                  go_ret
                  exact ⟨congrArg (fun b => Ending.returned (Value.bool b)) (decide_eq_false (HNE.out (fun e => C2.out (by rw [← ES2.out, ← ET2.out, e])))).symm, HB4.out⟩
          · have C1 := Aside0.mk c1
            have r1 : (s1 != t1) = true := by simp [c1]
            clear c1
            go_wp2_with (first
              | ((with_reducible refine gate_dst (N := 34) rfl ?_); (try (refine gate_guard (by rfl) ?_; dsimp only)); refine wpList_load_at rfl 23 (.tmp 33) rfl _ rfl P _ HE.out.1.fp Try.underlying23 rfl HI.out.1 ?_)
              | ((with_reducible refine gate_dst (N := 36) rfl ?_); (try (refine gate_guard (by rfl) ?_; dsimp only)); refine wpList_load_at rfl 23 (.tmp 35) rfl _ rfl P' _ HE.out.2.fp Try.underlying23 rfl HI.out.2.2.1 ?_)
              | ((with_reducible refine gate_dst (N := 41) rfl ?_); (try (refine gate_guard (by rfl) ?_; dsimp only)); refine wpList_load_at rfl 23 (.tmp 40) rfl _ rfl C _ HE.out.1.fc Try.underlying23 rfl HI.out.2.1 ?_)
              | ((with_reducible refine gate_dst (N := 43) rfl ?_); (try (refine gate_guard (by rfl) ?_; dsimp only)); refine wpList_load_at rfl 23 (.tmp 42) rfl _ rfl C' _ HE.out.2.fc Try.underlying23 rfl HI.out.2.2.2 ?_)
              | (go_at_call 23; refine (HSM.out _ HB4.out).mono ?_; rintro e w9 ⟨rfl, hd⟩; have HB9 := Aside0.mk (below_step HB4.out (Drawn0.below hd)); clear hd))
            go_ret
            exact ⟨congrArg (fun b => Ending.returned (Value.bool b)) (decide_eq_false (HNE.out (fun e => C1.out (by rw [← ES1.out, ← ET1.out, e])))).symm, HB4.out⟩
        · rw [if_pos (by rfl)]
          refine wp_alloc_e rfl ?_
          have HBa := Aside0.mk (below_alloc (below_drew1 (Below.refl W.heap.size W)) (.cells zE.toArray 27))
          (refine Shut.out hK _ _ (HALL.out _ HBa.out) (fun hHeld => ?_); clear hK K; (try simp only [Act.put, List.getElem_toArray, List.getElem_cons_zero, List.getElem_cons_succ, List.setIfInBounds_toArray, List.set_cons_zero, List.set_cons_succ]))
          refine wpAnyH_ready (rs := [8]) (by kernel_rfl) (by simp) (AllReadyH.cons rfl (fun K hK => ?_) AllReadyH.nil)
          rw [if_pos (by rfl)]
          refine wp_alloc_e rfl ?_
          have HBb := Aside0.mk (below_alloc HBa.out (.cells zE.toArray 27))
          have HYa := Aside0.mk (show (((W.drew.alloc (.cells zE.toArray 27)).alloc (.cells zE.toArray 27))).heap[W.drew.heap.size]? = some (.cells zE.toArray 27 (0, 0)) from blk_alloc (blk_new _ _) _)
          have HYb := Aside0.mk (show (((W.drew.alloc (.cells zE.toArray 27)).alloc (.cells zE.toArray 27))).heap[(W.drew.alloc (.cells zE.toArray 27)).heap.size]? = some (.cells zE.toArray 27 (0, 0)) from blk_new _ _)
          have HNab := Aside0.mk (show W.drew.heap.size ≠ (W.drew.alloc (.cells zE.toArray 27)).heap.size from by simp [World.alloc])
          have HGa := Aside0.mk (show W.heap.size ≤ W.drew.heap.size from Nat.le_refl _)
          have HGb := Aside0.mk (show W.heap.size ≤ (W.drew.alloc (.cells zE.toArray 27)).heap.size from by simp [World.alloc])
          obtain ⟨w2, hw2⟩ : ∃ V, ((W.drew.alloc (.cells zE.toArray 27)).alloc (.cells zE.toArray 27)) = V := ⟨_, rfl⟩
          obtain ⟨g6, hg6⟩ : ∃ g, (W.drew.alloc (.cells zE.toArray 27)).heap.size = g := ⟨_, rfl⟩
          obtain ⟨g7, hg7⟩ : ∃ g, W.drew.heap.size = g := ⟨_, rfl⟩
          rw [hw2] at HBb HYa HYb ⊢
          rw [hg7] at HYa HNab HGa ⊢
          rw [hg6] at HYb HNab HGb ⊢
          have HN67 := Aside0.mk (show g7 ≠ g6 from HNab.out)
          clear hw2 hg6 hg7 HNab
          (refine Shut.out hK _ _ (HALL.out _ HBb.out) (fun hHeld => ?_); clear hK K; (try simp only [Act.put, List.getElem_toArray, List.getElem_cons_zero, List.getElem_cons_succ, List.setIfInBounds_toArray, List.set_cons_zero, List.set_cons_succ]))
          refine wpAnyH_ready (rs := [10]) (by kernel_rfl) (by simp) (AllReadyH.cons rfl (fun K hK => ?_) AllReadyH.nil)
          rw [if_pos (by rfl)]
          refine wp_store_row 27 (.tmp 6) (.tmp 22) rfl g6 X.toArray rfl rfl 27 zE.toArray HYb.out HIX.out (by rw [List.size_toArray, List.size_toArray, zE_len, HXL.out]) HOX.out ?_
          have HBc := Aside0.mk (below_setRow HBb.out HGb.out X.toArray)
          have HYc := Aside0.mk ((setRow_other w2 g6 g7 X.toArray HN67.out).trans HYa.out)
          have HXc := Aside0.mk (setRow_heap w2 g6 zE.toArray X.toArray _ _ HYb.out)
          obtain ⟨w3, hw3⟩ : ∃ V, w2.setRow g6 X.toArray = V := ⟨_, rfl⟩
          rw [hw3] at HBc HYc HXc ⊢
          clear hw3
          (refine Shut.out hK _ _ (HALL.out _ HBc.out) (fun hHeld => ?_); clear hK K; (try simp only [Act.put, List.getElem_toArray, List.getElem_cons_zero, List.getElem_cons_succ, List.setIfInBounds_toArray, List.set_cons_zero, List.set_cons_succ]))
          refine wpAnyH_ready (rs := [11]) (by kernel_rfl) (by simp) (AllReadyH.cons rfl (fun K hK => ?_) AllReadyH.nil)
          rw [if_pos (by rfl)]
          refine wp_store_row 27 (.tmp 7) (.tmp 26) rfl g7 Y.toArray rfl rfl 27 zE.toArray HYc.out HIY.out (by rw [List.size_toArray, List.size_toArray, zE_len, HYL.out]) HOY.out ?_
          have HBd := Aside0.mk (below_setRow HBc.out HGa.out Y.toArray)
          have HXd := Aside0.mk ((setRow_other w3 g7 g6 Y.toArray HN67.out.symm).trans HXc.out)
          have HYd := Aside0.mk (setRow_heap w3 g7 zE.toArray Y.toArray _ _ HYc.out)
          obtain ⟨w4, hw4⟩ : ∃ V, w3.setRow g7 Y.toArray = V := ⟨_, rfl⟩
          rw [hw4] at HBd HYd HXd ⊢
          clear hw4
          (refine Shut.out hK _ _ (HALL.out _ HBd.out) (fun hHeld => ?_); clear hK K; (try simp only [Act.put, List.getElem_toArray, List.getElem_cons_zero, List.getElem_cons_succ, List.setIfInBounds_toArray, List.set_cons_zero, List.set_cons_succ]))
          refine wpAnyH_done (by kernel_rfl) ?_ _
          have HE := Aside0.mk (HMK.out w4 g6 g7 HXd.out HYd.out)
          have HB4 := Aside0.mk (below_step HB.out HBd.out)
          have hs1 := HE.out.1.s
          have hs2 := HE.out.1.sl
          have hs3 := HE.out.1.py
          have hs4 := HE.out.1.r
          have ht1 := HE.out.2.s
          have ht2 := HE.out.2.sl
          have ht3 := HE.out.2.py
          have ht4 := HE.out.2.r
          obtain ⟨s1, es1⟩ : ∃ v, seqE x = v := ⟨_, rfl⟩
          obtain ⟨t1, et1⟩ : ∃ v, seqE y = v := ⟨_, rfl⟩
          obtain ⟨s2, es2⟩ : ∃ v, saltE x = v := ⟨_, rfl⟩
          obtain ⟨t2, et2⟩ : ∃ v, saltE y = v := ⟨_, rfl⟩
          obtain ⟨s4, es4⟩ : ∃ v, redE x = v := ⟨_, rfl⟩
          obtain ⟨t4, et4⟩ : ∃ v, redE y = v := ⟨_, rfl⟩
          rw [es1] at hs1
          rw [et1] at ht1
          rw [es2] at hs2
          rw [et2] at ht2
          rw [es4] at hs4
          rw [et4] at ht4
          have ES1 := Aside0.mk es1
          have ET1 := Aside0.mk et1
          have ES2 := Aside0.mk es2
          have ET2 := Aside0.mk et2
          have ES4 := Aside0.mk es4
          have ET4 := Aside0.mk et4
          clear es1 et1 es2 et2 es4 et4
          by_cases c1 : s1 = t1
          · have C1 := Aside0.mk c1
            have r1 : (s1 != t1) = false := by simp [c1]
            clear c1
            have hp := HP.out
            have hq := HC.out
            cases bp with
            | false =>
              clear hq
              go_wp2_with (first
                | ((with_reducible refine gate_dst (N := 34) rfl ?_); (try (refine gate_guard (by rfl) ?_; dsimp only)); refine wpList_load_at rfl 23 (.tmp 33) rfl _ rfl P _ HE.out.1.fp Try.underlying23 rfl HI.out.1 ?_)
                | ((with_reducible refine gate_dst (N := 36) rfl ?_); (try (refine gate_guard (by rfl) ?_; dsimp only)); refine wpList_load_at rfl 23 (.tmp 35) rfl _ rfl P' _ HE.out.2.fp Try.underlying23 rfl HI.out.2.2.1 ?_)
                | ((with_reducible refine gate_dst (N := 41) rfl ?_); (try (refine gate_guard (by rfl) ?_; dsimp only)); refine wpList_load_at rfl 23 (.tmp 40) rfl _ rfl C _ HE.out.1.fc Try.underlying23 rfl HI.out.2.1 ?_)
                | ((with_reducible refine gate_dst (N := 43) rfl ?_); (try (refine gate_guard (by rfl) ?_; dsimp only)); refine wpList_load_at rfl 23 (.tmp 42) rfl _ rfl C' _ HE.out.2.fc Try.underlying23 rfl HI.out.2.2.2 ?_)
                | (go_at_call 23; refine (HSM.out _ HB4.out).mono ?_; rintro e w9 ⟨rfl, hd⟩; have HB9 := Aside0.mk (below_step HB4.out (Drawn0.below hd)); clear hd))
              go_ret
              exact ⟨congrArg (fun b => Ending.returned (Value.bool b)) (decide_eq_false (HNE.out (fun e => of_decide_eq_false HBP.out (congrArg prevE e)))).symm, HB4.out⟩
            | true =>
              cases bc with
              | false =>
                go_wp2_with (first
                  | ((with_reducible refine gate_dst (N := 34) rfl ?_); (try (refine gate_guard (by rfl) ?_; dsimp only)); refine wpList_load_at rfl 23 (.tmp 33) rfl _ rfl P _ HE.out.1.fp Try.underlying23 rfl HI.out.1 ?_)
                  | ((with_reducible refine gate_dst (N := 36) rfl ?_); (try (refine gate_guard (by rfl) ?_; dsimp only)); refine wpList_load_at rfl 23 (.tmp 35) rfl _ rfl P' _ HE.out.2.fp Try.underlying23 rfl HI.out.2.2.1 ?_)
                  | ((with_reducible refine gate_dst (N := 41) rfl ?_); (try (refine gate_guard (by rfl) ?_; dsimp only)); refine wpList_load_at rfl 23 (.tmp 40) rfl _ rfl C _ HE.out.1.fc Try.underlying23 rfl HI.out.2.1 ?_)
                  | ((with_reducible refine gate_dst (N := 43) rfl ?_); (try (refine gate_guard (by rfl) ?_; dsimp only)); refine wpList_load_at rfl 23 (.tmp 42) rfl _ rfl C' _ HE.out.2.fc Try.underlying23 rfl HI.out.2.2.2 ?_)
                  | (go_at_call 23; refine (HSM.out _ HB4.out).mono ?_; rintro e w9 ⟨rfl, hd⟩; have HB9 := Aside0.mk (below_step HB4.out (Drawn0.below hd)); clear hd))
                go_ret
                exact ⟨congrArg (fun b => Ending.returned (Value.bool b)) (decide_eq_false (HNE.out (fun e => of_decide_eq_false HBC.out (congrArg comE e)))).symm, HB4.out⟩
              | true =>
                by_cases c2 : s2 = t2
                · have C2 := Aside0.mk c2
                  have r2 : (s2 != t2) = false := by simp [c2]
                  clear c2
                  by_cases c4 : s4 = t4
                  · have C4 := Aside0.mk c4
                    subst c4
                    cases s4
                    · cases by_ with
                      | false =>
                        go_wp2_with (first
                          | ((with_reducible refine gate_dst (N := 34) rfl ?_); (try (refine gate_guard (by rfl) ?_; dsimp only)); refine wpList_load_at rfl 23 (.tmp 33) rfl _ rfl P _ HE.out.1.fp Try.underlying23 rfl HI.out.1 ?_)
                          | ((with_reducible refine gate_dst (N := 36) rfl ?_); (try (refine gate_guard (by rfl) ?_; dsimp only)); refine wpList_load_at rfl 23 (.tmp 35) rfl _ rfl P' _ HE.out.2.fp Try.underlying23 rfl HI.out.2.2.1 ?_)
                          | ((with_reducible refine gate_dst (N := 41) rfl ?_); (try (refine gate_guard (by rfl) ?_; dsimp only)); refine wpList_load_at rfl 23 (.tmp 40) rfl _ rfl C _ HE.out.1.fc Try.underlying23 rfl HI.out.2.1 ?_)
                          | ((with_reducible refine gate_dst (N := 43) rfl ?_); (try (refine gate_guard (by rfl) ?_; dsimp only)); refine wpList_load_at rfl 23 (.tmp 42) rfl _ rfl C' _ HE.out.2.fc Try.underlying23 rfl HI.out.2.2.2 ?_)
                          | (go_at_call 23; refine (HSM.out _ HB4.out).mono ?_; rintro e w9 ⟨rfl, hd⟩; have HB9 := Aside0.mk (below_step HB4.out (Drawn0.below hd)); clear hd))
                        go_ret
                        exact ⟨congrArg (fun b => Ending.returned (Value.bool b)) (decide_eq_false (HNE.out (fun e => of_decide_eq_false HBY.out (congrArg payE e)))).symm, HB9.out⟩
                      | true =>
                        have HEQ := Aside0.mk (show a.take (k + 1) = b.take (k + 1) from by
                          rw [HX.out, HY.out, HTK.out, ent_ext (x := x) (y := y) (by rw [ES1.out, ET1.out]; exact C1.out) (of_decide_eq_true HBP.out) (of_decide_eq_true HBC.out) (by rw [ES2.out, ET2.out]; exact C2.out) (by rw [ES4.out, ET4.out]) (of_decide_eq_true HBY.out)])
                        go_wp2_with (first
                          | ((with_reducible refine gate_dst (N := 34) rfl ?_); (try (refine gate_guard (by rfl) ?_; dsimp only)); refine wpList_load_at rfl 23 (.tmp 33) rfl _ rfl P _ HE.out.1.fp Try.underlying23 rfl HI.out.1 ?_)
                          | ((with_reducible refine gate_dst (N := 36) rfl ?_); (try (refine gate_guard (by rfl) ?_; dsimp only)); refine wpList_load_at rfl 23 (.tmp 35) rfl _ rfl P' _ HE.out.2.fp Try.underlying23 rfl HI.out.2.2.1 ?_)
                          | ((with_reducible refine gate_dst (N := 41) rfl ?_); (try (refine gate_guard (by rfl) ?_; dsimp only)); refine wpList_load_at rfl 23 (.tmp 40) rfl _ rfl C _ HE.out.1.fc Try.underlying23 rfl HI.out.2.1 ?_)
                          | ((with_reducible refine gate_dst (N := 43) rfl ?_); (try (refine gate_guard (by rfl) ?_; dsimp only)); refine wpList_load_at rfl 23 (.tmp 42) rfl _ rfl C' _ HE.out.2.fc Try.underlying23 rfl HI.out.2.2.2 ?_)
                          | (go_at_call 23; refine (HSM.out _ HB4.out).mono ?_; rintro e w9 ⟨rfl, hd⟩; have HB9 := Aside0.mk (below_step HB4.out (Drawn0.below hd)); clear hd))
                        go_roundw
                        case rel => exact ⟨k + 1, by have := HK.out; omega, by go_num, HEQ, HB9.out⟩
                        case measure => have := HK.out; simp [intOf]; omega
                    · cases by_ with
                      | false =>
                        go_wp2_with (first
                          | ((with_reducible refine gate_dst (N := 34) rfl ?_); (try (refine gate_guard (by rfl) ?_; dsimp only)); refine wpList_load_at rfl 23 (.tmp 33) rfl _ rfl P _ HE.out.1.fp Try.underlying23 rfl HI.out.1 ?_)
                          | ((with_reducible refine gate_dst (N := 36) rfl ?_); (try (refine gate_guard (by rfl) ?_; dsimp only)); refine wpList_load_at rfl 23 (.tmp 35) rfl _ rfl P' _ HE.out.2.fp Try.underlying23 rfl HI.out.2.2.1 ?_)
                          | ((with_reducible refine gate_dst (N := 41) rfl ?_); (try (refine gate_guard (by rfl) ?_; dsimp only)); refine wpList_load_at rfl 23 (.tmp 40) rfl _ rfl C _ HE.out.1.fc Try.underlying23 rfl HI.out.2.1 ?_)
                          | ((with_reducible refine gate_dst (N := 43) rfl ?_); (try (refine gate_guard (by rfl) ?_; dsimp only)); refine wpList_load_at rfl 23 (.tmp 42) rfl _ rfl C' _ HE.out.2.fc Try.underlying23 rfl HI.out.2.2.2 ?_)
                          | (go_at_call 23; refine (HSM.out _ HB4.out).mono ?_; rintro e w9 ⟨rfl, hd⟩; have HB9 := Aside0.mk (below_step HB4.out (Drawn0.below hd)); clear hd))
                        go_ret
                        exact ⟨congrArg (fun b => Ending.returned (Value.bool b)) (decide_eq_false (HNE.out (fun e => of_decide_eq_false HBY.out (congrArg payE e)))).symm, HB9.out⟩
                      | true =>
                        have HEQ := Aside0.mk (show a.take (k + 1) = b.take (k + 1) from by
                          rw [HX.out, HY.out, HTK.out, ent_ext (x := x) (y := y) (by rw [ES1.out, ET1.out]; exact C1.out) (of_decide_eq_true HBP.out) (of_decide_eq_true HBC.out) (by rw [ES2.out, ET2.out]; exact C2.out) (by rw [ES4.out, ET4.out]) (of_decide_eq_true HBY.out)])
                        go_wp2_with (first
                          | ((with_reducible refine gate_dst (N := 34) rfl ?_); (try (refine gate_guard (by rfl) ?_; dsimp only)); refine wpList_load_at rfl 23 (.tmp 33) rfl _ rfl P _ HE.out.1.fp Try.underlying23 rfl HI.out.1 ?_)
                          | ((with_reducible refine gate_dst (N := 36) rfl ?_); (try (refine gate_guard (by rfl) ?_; dsimp only)); refine wpList_load_at rfl 23 (.tmp 35) rfl _ rfl P' _ HE.out.2.fp Try.underlying23 rfl HI.out.2.2.1 ?_)
                          | ((with_reducible refine gate_dst (N := 41) rfl ?_); (try (refine gate_guard (by rfl) ?_; dsimp only)); refine wpList_load_at rfl 23 (.tmp 40) rfl _ rfl C _ HE.out.1.fc Try.underlying23 rfl HI.out.2.1 ?_)
                          | ((with_reducible refine gate_dst (N := 43) rfl ?_); (try (refine gate_guard (by rfl) ?_; dsimp only)); refine wpList_load_at rfl 23 (.tmp 42) rfl _ rfl C' _ HE.out.2.fc Try.underlying23 rfl HI.out.2.2.2 ?_)
                          | (go_at_call 23; refine (HSM.out _ HB4.out).mono ?_; rintro e w9 ⟨rfl, hd⟩; have HB9 := Aside0.mk (below_step HB4.out (Drawn0.below hd)); clear hd))
                        go_roundw
                        case rel => exact ⟨k + 1, by have := HK.out; omega, by go_num, HEQ, HB9.out⟩
                        case measure => have := HK.out; simp [intOf]; omega
                  · have C4 := Aside0.mk c4
                    obtain ⟨rfl, rfl⟩ | ⟨rfl, rfl⟩ : (s4 = true ∧ t4 = false) ∨ (s4 = false ∧ t4 = true) := by cases s4 <;> cases t4 <;> simp_all
                    · clear c4
                      go_wp2_with (first
                        | ((with_reducible refine gate_dst (N := 34) rfl ?_); (try (refine gate_guard (by rfl) ?_; dsimp only)); refine wpList_load_at rfl 23 (.tmp 33) rfl _ rfl P _ HE.out.1.fp Try.underlying23 rfl HI.out.1 ?_)
                        | ((with_reducible refine gate_dst (N := 36) rfl ?_); (try (refine gate_guard (by rfl) ?_; dsimp only)); refine wpList_load_at rfl 23 (.tmp 35) rfl _ rfl P' _ HE.out.2.fp Try.underlying23 rfl HI.out.2.2.1 ?_)
                        | ((with_reducible refine gate_dst (N := 41) rfl ?_); (try (refine gate_guard (by rfl) ?_; dsimp only)); refine wpList_load_at rfl 23 (.tmp 40) rfl _ rfl C _ HE.out.1.fc Try.underlying23 rfl HI.out.2.1 ?_)
                        | ((with_reducible refine gate_dst (N := 43) rfl ?_); (try (refine gate_guard (by rfl) ?_; dsimp only)); refine wpList_load_at rfl 23 (.tmp 42) rfl _ rfl C' _ HE.out.2.fc Try.underlying23 rfl HI.out.2.2.2 ?_)
                        | (go_at_call 23; refine (HSM.out _ HB4.out).mono ?_; rintro e w9 ⟨rfl, hd⟩; have HB9 := Aside0.mk (below_step HB4.out (Drawn0.below hd)); clear hd))
                      go_ret
                      exact ⟨congrArg (fun b => Ending.returned (Value.bool b)) (decide_eq_false (HNE.out (fun e => C4.out (by rw [← ES4.out, ← ET4.out, e])))).symm, HB4.out⟩
                    · clear c4
                      go_wp2_with (first
                        | ((with_reducible refine gate_dst (N := 34) rfl ?_); (try (refine gate_guard (by rfl) ?_; dsimp only)); refine wpList_load_at rfl 23 (.tmp 33) rfl _ rfl P _ HE.out.1.fp Try.underlying23 rfl HI.out.1 ?_)
                        | ((with_reducible refine gate_dst (N := 36) rfl ?_); (try (refine gate_guard (by rfl) ?_; dsimp only)); refine wpList_load_at rfl 23 (.tmp 35) rfl _ rfl P' _ HE.out.2.fp Try.underlying23 rfl HI.out.2.2.1 ?_)
                        | ((with_reducible refine gate_dst (N := 41) rfl ?_); (try (refine gate_guard (by rfl) ?_; dsimp only)); refine wpList_load_at rfl 23 (.tmp 40) rfl _ rfl C _ HE.out.1.fc Try.underlying23 rfl HI.out.2.1 ?_)
                        | ((with_reducible refine gate_dst (N := 43) rfl ?_); (try (refine gate_guard (by rfl) ?_; dsimp only)); refine wpList_load_at rfl 23 (.tmp 42) rfl _ rfl C' _ HE.out.2.fc Try.underlying23 rfl HI.out.2.2.2 ?_)
                        | (go_at_call 23; refine (HSM.out _ HB4.out).mono ?_; rintro e w9 ⟨rfl, hd⟩; have HB9 := Aside0.mk (below_step HB4.out (Drawn0.below hd)); clear hd))
                      go_ret
                      exact ⟨congrArg (fun b => Ending.returned (Value.bool b)) (decide_eq_false (HNE.out (fun e => C4.out (by rw [← ES4.out, ← ET4.out, e])))).symm, HB4.out⟩
                · have C2 := Aside0.mk c2
                  have r2 : (s2 != t2) = true := by simp [c2]
                  clear c2
                  go_wp2_with (first
                    | ((with_reducible refine gate_dst (N := 34) rfl ?_); (try (refine gate_guard (by rfl) ?_; dsimp only)); refine wpList_load_at rfl 23 (.tmp 33) rfl _ rfl P _ HE.out.1.fp Try.underlying23 rfl HI.out.1 ?_)
                    | ((with_reducible refine gate_dst (N := 36) rfl ?_); (try (refine gate_guard (by rfl) ?_; dsimp only)); refine wpList_load_at rfl 23 (.tmp 35) rfl _ rfl P' _ HE.out.2.fp Try.underlying23 rfl HI.out.2.2.1 ?_)
                    | ((with_reducible refine gate_dst (N := 41) rfl ?_); (try (refine gate_guard (by rfl) ?_; dsimp only)); refine wpList_load_at rfl 23 (.tmp 40) rfl _ rfl C _ HE.out.1.fc Try.underlying23 rfl HI.out.2.1 ?_)
                    | ((with_reducible refine gate_dst (N := 43) rfl ?_); (try (refine gate_guard (by rfl) ?_; dsimp only)); refine wpList_load_at rfl 23 (.tmp 42) rfl _ rfl C' _ HE.out.2.fc Try.underlying23 rfl HI.out.2.2.2 ?_)
                    | (go_at_call 23; refine (HSM.out _ HB4.out).mono ?_; rintro e w9 ⟨rfl, hd⟩; have HB9 := Aside0.mk (below_step HB4.out (Drawn0.below hd)); clear hd))
                  go_ret
                  exact ⟨congrArg (fun b => Ending.returned (Value.bool b)) (decide_eq_false (HNE.out (fun e => C2.out (by rw [← ES2.out, ← ET2.out, e])))).symm, HB4.out⟩
          · have C1 := Aside0.mk c1
            have r1 : (s1 != t1) = true := by simp [c1]
            clear c1
            go_wp2_with (first
              | ((with_reducible refine gate_dst (N := 34) rfl ?_); (try (refine gate_guard (by rfl) ?_; dsimp only)); refine wpList_load_at rfl 23 (.tmp 33) rfl _ rfl P _ HE.out.1.fp Try.underlying23 rfl HI.out.1 ?_)
              | ((with_reducible refine gate_dst (N := 36) rfl ?_); (try (refine gate_guard (by rfl) ?_; dsimp only)); refine wpList_load_at rfl 23 (.tmp 35) rfl _ rfl P' _ HE.out.2.fp Try.underlying23 rfl HI.out.2.2.1 ?_)
              | ((with_reducible refine gate_dst (N := 41) rfl ?_); (try (refine gate_guard (by rfl) ?_; dsimp only)); refine wpList_load_at rfl 23 (.tmp 40) rfl _ rfl C _ HE.out.1.fc Try.underlying23 rfl HI.out.2.1 ?_)
              | ((with_reducible refine gate_dst (N := 43) rfl ?_); (try (refine gate_guard (by rfl) ?_; dsimp only)); refine wpList_load_at rfl 23 (.tmp 42) rfl _ rfl C' _ HE.out.2.fc Try.underlying23 rfl HI.out.2.2.2 ?_)
              | (go_at_call 23; refine (HSM.out _ HB4.out).mono ?_; rintro e w9 ⟨rfl, hd⟩; have HB9 := Aside0.mk (below_step HB4.out (Drawn0.below hd)); clear hd))
            go_ret
            exact ⟨congrArg (fun b => Ending.returned (Value.bool b)) (decide_eq_false (HNE.out (fun e => C1.out (by rw [← ES1.out, ← ET1.out, e])))).symm, HB4.out⟩
      · have hkm : k = m := by omega
        subst hkm
        have HF := Aside0.mk (show a = b by
          have h := HTK.out
          rwa [List.take_of_length_le (by have := HM.out; omega), List.take_of_length_le (by have := HM2.out; omega)] at h)
        clear hlt hk
        go_wp2_with (fail)
        go_ret
        exact ⟨(congrArg (fun b => Ending.returned (Value.bool b)) (decide_eq_true HF.out).symm), HB.out⟩
  · have HF := Aside0.mk (show a ≠ b from fun h => hn (by rw [h]))
    have e1 : ((a.length : Int) == (b.length : Int)) = false := by rw [beq_eq_false_iff_ne]; omega
    have e2 : ((a.length : Int) != (b.length : Int)) = true := by rw [bne_iff_ne]; omega
    have e3 : (a.length == b.length) = false := by rw [beq_eq_false_iff_ne]; exact hn
    have hn2 : ¬ a.length = b.length := hn
    clear h0 h1 hl hl2 hn hs ha hb
    go_enter Try.func20, Try.ntmps20
    go_wp2_with (fail)
    go_ret
    exact ⟨(congrArg (fun b => Ending.returned (Value.bool b)) (decide_eq_false HF.out).symm), HB.out⟩
end Go.Proofs.Ytfpkgdenohcglaa.Chn
/- Few; the law's example. -/
namespace Go.Proofs.Ytfpkgdenohcglaa.Chn
set_option linter.unusedVariables false
set_option linter.unusedSimpArgs false
open Go.RowKit Go.Proofs.Ytfpkgdenohcglaa.Base Go.Proofs.Ytfpkgdenohcglaa.TlvPlain Go.Proofs.Ytfpkgdenohcglaa.ShaPlain Go.Proofs.Ytfpkgdenohcglaa.Sha Go.Proofs.Ytfpkgdenohcglaa.Com Go.Proofs.Ytfpkgdenohcglaa.Aid Go.Proofs.YtfpkgdenohcglaaW.PrintWords Go.Proofs.YtfpkgdenohcglaaW.PrintLast Go.Proofs.YtfpkgdenohcglaaW.PrintMore
attribute [local irreducible] shaB
def fewT (l : List Ent) : Bool := (l.take 20).all (fun x => decide ((payE x).length ≤ 300)) && decide (l.length ≤ 12)
theorem fewT_yes {l : List Ent} (h : fewT l = true) : l.length ≤ 12 ∧ ∀ x ∈ l, (payE x).length ≤ 300 := by
  unfold fewT at h
  rw [Bool.and_eq_true, List.all_eq_true, decide_eq_true_eq] at h
  refine ⟨h.2, fun x hx => ?_⟩
  have h2 := h.1 x (by rw [List.take_of_length_le (by omega)]; exact hx)
  exact of_decide_eq_true h2
theorem few_bad (l : List Ent) (k : Nat) (hk : k < l.length) (h20 : k < 20) (h : 300 < (payE l[k]).length) : fewT l = false := by
  unfold fewT
  rw [Bool.and_eq_false_iff]
  left
  rw [List.all_eq_false]
  exact ⟨l[k], List.mem_iff_getElem.2 ⟨k, by simp; omega, by simp⟩, by simp; omega⟩
theorem few_end (l : List Ent) (k : Nat) (hk : k ≤ l.length) (h : k < l.length → 20 ≤ k) (hs : ∀ x ∈ l.take k, (payE x).length ≤ 300) : fewT l = decide (l.length ≤ 12) := by
  unfold fewT
  have h1 : (l.take 20).all (fun x => decide ((payE x).length ≤ 300)) = true := by
    rw [List.all_eq_true]
    intro x hx
    refine decide_eq_true (hs x ?_)
    by_cases hkl : k < l.length
    · have := h hkl
      exact List.mem_of_mem_take (by rw [List.take_take, Nat.min_eq_left this]; exact hx)
    · rw [List.take_of_length_le (by omega)]
      exact List.mem_of_mem_take hx
  rw [h1, Bool.true_and]
set_option maxHeartbeats 4000000 in
set_option maxRecDepth 100000 in
theorem few_c (l : List Ent) (m : Nat) (hl : l.length = m) (hm : m ≤ 9223372036854775807) (A : Option Addr) (c : Nat) (w : World) (hr : Re w A l) :
    Calls Try.prog 11 #[.slice A m c] w (RetB w (fewT l)) := by
  unfold RetB
  have HR := Aside0.mk hr
  have HL := Aside0.mk hl
  have HM := Aside0.mk hm
  clear hl hr hm
  go_enter Try.func11, Try.ntmps11
  have HB := Aside0.mk (Below.refl w.heap.size w)
  go_wp2_with (fail)
  go_loopw [3] (fun i wr => ∃ k : Nat, k ≤ m ∧ k ≤ 20 ∧ i = .int .i64 k ∧ Aside0 (∀ x ∈ l.take k, (payE x).length ≤ 300) ∧ Below w.heap.size w wr) (fun i _ => 20 - (intOf i).toNat)
  case atStart => exact ⟨0, Nat.zero_le _, Nat.zero_le _, rfl, ⟨fun x hx => by simp at hx⟩, HB.out⟩
  case round =>
    clear HB
    obtain ⟨k, hk, hk20, rfl, HS, hb⟩ := hrel
    have HB := Aside0.mk hb
    clear hb
    obtain ⟨W, hwy⟩ : ∃ wy, wy = wr := ⟨_, rfl⟩
    subst hwy
    by_cases hlt : k < m
    · by_cases h20 : k < 20
      · have hkl : k < l.length := by rw [HL.out]; exact hlt
        obtain ⟨ad, P, C, B, cb, rfl, hat, hC⟩ := re_at HR.out k hkl
        have hpy : W.cell? ⟨(ad.add (k * 68)).block, (ad.add (k * 68)).off + 66, none⟩ = some (.slice B (payE l[k]).length cb) := ((entF hC.fp.lenC hC.fc.lenC hat).below HB.out).py
        have HBAD := Aside0.mk (few_bad l k hkl h20)
        have HTK := Aside0.mk (take_snoc l k hkl)
        obtain ⟨x, hx⟩ : ∃ x, l[k] = x := ⟨_, rfl⟩
        rw [hx] at hpy HBAD HTK
        obtain ⟨n, hn⟩ : ∃ n, (payE x).length = n := ⟨_, rfl⟩
        rw [hn] at hpy HBAD
        have HN := Aside0.mk hn
        have HK := Aside0.mk (And.intro hlt h20)
        have p0 : (0 : Int) ≤ (k : Int) := by omega
        have p1 : (k : Int) < (m : Int) := by omega
        have p2 : (k : Int) < 20 := by omega
        have d1 : decide ((k : Int) < (m : Int)) = true := decide_eq_true p1
        have d2 : decide ((k : Int) < 20) = true := decide_eq_true p2
        have d3 : decide (k < m) = true := decide_eq_true hlt
        clear hat hC hx hn hkl hlt h20 hk hk20
        by_cases hp : 300 < n
        · have e1 : decide ((300 : Int) < (n : Int)) = true := decide_eq_true (by omega)
          have e2 : decide (300 < n) = true := decide_eq_true hp
          have HF := Aside0.mk (HBAD.out hp)
          clear hp
          go_wp2_with (fail)
          go_ret
          exact ⟨(congrArg (fun b => Ending.returned (Value.bool b)) HF.out).symm, HB.out⟩
        · have e1 : decide ((300 : Int) < (n : Int)) = false := decide_eq_false (by omega)
          have e2 : decide (300 < n) = false := decide_eq_false hp
          have HS2 := Aside0.mk (show ∀ y ∈ l.take (k + 1), (payE y).length ≤ 300 from by
            rw [HTK.out]
            intro y hy
            rcases List.mem_append.1 hy with h | h
            · exact HS.out y h
            · rw [List.mem_singleton.1 h, HN.out]; omega)
          clear hp
          go_wp2_with (fail)
          go_roundw
          case rel => exact ⟨k + 1, by have := HK.out.1; omega, by have := HK.out.2; omega, by go_num, HS2, HB.out⟩
          case measure => have := HK.out.2; simp [intOf]; omega
      · have hk2 : k = 20 := by omega
        subst hk2
        have HF := Aside0.mk (few_end l 20 (by rw [HL.out]; omega) (fun _ => Nat.le_refl _) HS.out)
        rw [HL.out] at HF
        have p1 : (20 : Int) < (m : Int) := by omega
        have d1 : decide ((20 : Int) < (m : Int)) = true := decide_eq_true p1
        have d3 : decide (20 < m) = true := decide_eq_true hlt
        have e1 : decide ((m : Int) ≤ 12) = false := decide_eq_false (by omega)
        have e2 : decide (m ≤ 12) = false := decide_eq_false (by omega)
        rw [e2] at HF
        clear hlt h20 hk hk20
        go_wp2_with (fail)
        go_ret
        exact ⟨(congrArg (fun b => Ending.returned (Value.bool b)) HF.out).symm, HB.out⟩
    · have hkm : k = m := by omega
      subst hkm
      have HF := Aside0.mk (few_end l k (by rw [HL.out]; omega) (fun h => by rw [HL.out] at h; omega) HS.out)
      rw [HL.out] at HF
      obtain ⟨b, hb⟩ : ∃ b, decide (k ≤ 12) = b := ⟨_, rfl⟩
      have e1 : decide ((k : Int) ≤ 12) = b := by rw [← hb]; by_cases h : k ≤ 12 <;> simp [h] <;> omega
      rw [hb] at HF
      clear hlt hk hk20
      go_wp2_with (fail)
      go_ret
      exact ⟨(congrArg (fun b => Ending.returned (Value.bool b)) HF.out).symm, HB.out⟩
set_option maxHeartbeats 4000000 in
theorem num24_c (n : Int) (w : World) : Calls Try.prog 21 #[.int .i64 n] w fun e w' => e = .returned (.int .i64 n) ∧ w' = w := by
  go_enter Try.func21, Try.ntmps21
  go_wp2_with (fail)
  go_ret
  exact ⟨rfl, rfl⟩
def x0 : Ent := newE [] 5 [97]
def x1 : Ent := newE [x0] 6 [98]
theorem cutE_u {x : Ent} (h : Eu x) : Eu (cutE x) := ⟨h.pl, h.pu, h.cl, h.cu, Int.le_refl _, by show (0 : Int) ≤ _; decide, fun y hy => by cases hy⟩
theorem newE_u (l : List Ent) {salt : Int} {pay : List Int} (h0 : 0 ≤ salt) (h1 : salt ≤ 18446744073709551615) (hp : U8 pay) : Eu (newE l salt pay) := ⟨headT_len _, headT_u8 _, comH_len _ _, comH_u8 _ _, h0, h1, hp⟩
theorem x0_u : Eu x0 := show Eu (newE [] 5 [97]) from newE_u [] (by decide) (by decide) (fun y hy => by rw [List.mem_singleton.1 hy]; decide)
theorem x1_u : Eu x1 := show Eu (newE [x0] 6 [98]) from newE_u [x0] (by decide) (by decide) (fun y hy => by rw [List.mem_singleton.1 hy]; decide)
theorem live_ver : verT [cutE x0, x1] (headT [x0, x1]) 2 = (2, true) := by
  have h0 : okT 0 Z (cutE x0) = true := by
    unfold okT rightT
    rw [if_pos (show redE (cutE x0) = true from rfl), show seqE (cutE x0) = ((0 : Nat) : Int) from rfl, show prevE (cutE x0) = Z from rfl, show saltE (cutE x0) = 0 from rfl, show payE (cutE x0) = [] from rfl]
    simp
  have h1 : okT 1 (linkT (cutE x0)) x1 = true := by
    unfold okT rightT
    rw [if_neg (show ¬ redE x1 = true from by decide), show seqE x1 = ((1 : Nat) : Int) from rfl, show prevE x1 = linkT (cutE x0) from rfl, show comE x1 = comH (saltE x1) (payE x1) from rfl]
    simp
  have hb : badT [cutE x0, x1] 0 Z = none := by
    unfold badT
    rw [if_pos h0]
    unfold badT
    rw [if_pos h1]
    rfl
  unfold verT
  rw [hb]
  have h2 : headT [cutE x0, x1] = headT [x0, x1] := rfl
  rw [h2]
  simp
theorem m_u : Lu' [cutE x0, x1] := fun y hy => by
  rcases List.mem_cons.1 hy with h | h
  · rw [h]; exact cutE_u x0_u
  · rw [List.mem_singleton.1 h]; exact x1_u
theorem l1_u : Lu' [x0] := fun y hy => by rw [List.mem_singleton.1 hy]; exact x0_u
theorem l2_u : Lu' [x0, x1] := fun y hy => by
  rcases List.mem_cons.1 hy with h | h
  · rw [h]; exact x0_u
  · rw [List.mem_singleton.1 h]; exact x1_u
theorem nil_re (w : World) : Re w none [] := Kd.C_nil _ _
theorem add_l1 (w : World) (B : Option Addr) (h : Rb w B [97]) : Calls Try.prog 13 #[.slice none 0 0, .int .u64 5, .slice B 1 1] w (RetE w [x0]) :=
  add_c [] 0 rfl (by decide) (fun x hx => by cases hx) none 0 (by decide) 5 (by decide) (by decide) [97] (fun y hy => by rw [List.mem_singleton.1 hy]; decide) (by decide) B 1 (by decide) w (nil_re w) h
theorem add_l2 (w : World) (A : Option Addr) (c : Nat) (hc : 1 ≤ c) (hr : Re w A [x0]) (B : Option Addr) (h : Rb w B [98]) : Calls Try.prog 13 #[.slice A 1 c, .int .u64 6, .slice B 1 1] w (RetE w [x0, x1]) :=
  add_c [x0] 1 rfl (by decide) l1_u A c hc 6 (by decide) (by decide) [98] (fun y hy => by rw [List.mem_singleton.1 hy]; decide) (by decide) B 1 (by decide) w hr h
theorem red_l (w : World) (A : Option Addr) (c : Nat) (hc : 2 ≤ c) (hr : Re w A [x0, x1]) : Calls Try.prog 15 #[.slice A 2 c, .int .i64 0] w (RetR w ([cutE x0, x1], 0)) :=
  redact_in [x0, x1] 2 rfl (by decide) 0 (by decide) A c hc w hr
theorem head_l (w : World) (A : Option Addr) (c : Nat) (hr : Re w A [x0, x1]) : Calls Try.prog 22 #[.slice A 2 c] w (Ret w (headT [x0, x1])) :=
  head_c [x0, x1] 2 rfl (by decide) l2_u A c w hr
theorem ver_l (w : World) (A : Option Addr) (c : Nat) (hr : Re w A [cutE x0, x1]) : Calls Try.prog 17 #[.slice A 2 c, sumV (headT [x0, x1]), .int .i64 2] w (RetIB w (2, true)) := by
  have h := verify_c [cutE x0, x1] 2 rfl (by decide) m_u (fun y hy => by
    rcases List.mem_cons.1 hy with h | h
    · rw [h]; exact Nat.zero_le _
    · rw [List.mem_singleton.1 h]; show [(98 : Int)].length ≤ 100000; decide) (headT [x0, x1]) (headT_len _) 2 A c w hr
  rw [live_ver] at h
  exact h
set_option maxHeartbeats 8000000 in
set_option maxRecDepth 100000 in
theorem live24_c (w : World) : Calls Try.prog 12 #[] w (RetB w true) := by
  have kc := fun (w : World) (C : Array Value) (n c : Nat) => Lib.run_convert_bytes_const (P := Try.prog) w 25 5 C n c Try.underlying25 Try.underlying5
  obtain ⟨D, hD⟩ := sumC (headT [x0, x1]) (headT_len _)
  have HH := Aside0.mk head_l
  have HV := Aside0.mk ver_l
  unfold Ret at HH
  rw [hD.v] at HH HV
  unfold RetB
  clear hD
  go_enter Try.func12, Try.ntmps12
  go_wp2_with (fail)
  refine (add_l1 _ _ (const_reads _ [97] #[.int .u8 97] (1, 2) rfl (by simp))).mono ?_
  rintro e w1 ⟨v1, rfl, hr1, hb0⟩
  have HB1 := Aside0.mk (below_step (below_alloc (Below.refl w.heap.size w) _) hb0)
  obtain ⟨A1, c1, rfl, hc1, hre1⟩ := hr1.reads
  have HR1 := Aside0.mk (And.intro hc1 hre1)
  clear hr1 hb0 hc1 hre1
  go_wp2_with (fail)
  refine (add_l2 _ A1 c1 HR1.out.1 (Kd.C_below HR1.out.2 (below_alloc (Below.refl _ _) _)) _ (const_reads _ [98] #[.int .u8 98] (1, 2) rfl (by simp))).mono ?_
  rintro e w2 ⟨v2, rfl, hr2, hb0⟩
  have HB2 := Aside0.mk (below_step HB1.out (below_step (below_alloc (Below.refl w1.heap.size w1) _) hb0))
  obtain ⟨A2, c2, rfl, hc2, hre2⟩ := hr2.reads
  have HR2 := Aside0.mk (And.intro hc2 hre2)
  clear hr2 hb0 hc2 hre2
  go_wp2_with (fail)
  refine (red_l _ A2 c2 HR2.out.1 HR2.out.2).mono ?_
  rintro e w3 ⟨v3, rfl, hr3, hb3⟩
  have HB3 := Aside0.mk (below_step HB2.out hb3)
  have HR23 := Aside0.mk (Kd.C_below HR2.out.2 hb3)
  obtain ⟨A3, c3, rfl, hc3, hre3⟩ := hr3.reads
  obtain ⟨ad, P, C, B, cb, rfl, hat, hC⟩ := re_at hre3 0 (by decide)
  have HEF := Aside0.mk (entF hC.fp.lenC hC.fc.lenC hat)
  have HR3 := Aside0.mk hre3
  clear hr3 hb3 hc3 hre3 hat hC
  go_wp2_with (fail)
  refine (HH.out _ A2 c2 HR23.out).mono ?_
  rintro e w4 ⟨rfl, hb4⟩
  have HB4 := Aside0.mk (below_step HB3.out hb4)
  have HR4 := Aside0.mk (Kd.C_below HR3.out hb4)
  have HEF4 := Aside0.mk (HEF.out.below hb4)
  clear hb4
  go_wp2_with (fail)
  refine (HV.out _ (some ad) c3 HR4.out).mono ?_
  rintro e w5 ⟨rfl, hb5⟩
  have HB5 := Aside0.mk (below_step HB4.out hb5)
  have h5 := (HEF4.out.below hb5).r
  have h6 : w5.cell? ⟨ad.block, ad.off + 67, none⟩ = some (.bool true) := h5
  clear hb5 h5
  go_wp2_with (go_at_call 21; refine (num24_c 0 _).mono ?_; rintro e w6 ⟨rfl, rfl⟩)
  go_ret
  exact ⟨rfl, HB5.out⟩
end Go.Proofs.Ytfpkgdenohcglaa.Chn
/- The law ChainAdds walked. -/
namespace Go.Proofs.Ytfpkgdenohcglaa.Chn
set_option linter.unusedVariables false
set_option linter.unusedSimpArgs false
open Go.RowKit Go.Proofs.Ytfpkgdenohcglaa.Base Go.Proofs.Ytfpkgdenohcglaa.TlvPlain Go.Proofs.Ytfpkgdenohcglaa.ShaPlain Go.Proofs.Ytfpkgdenohcglaa.Sha Go.Proofs.Ytfpkgdenohcglaa.Com Go.Proofs.Ytfpkgdenohcglaa.Aid Go.Proofs.YtfpkgdenohcglaaW.PrintWords Go.Proofs.YtfpkgdenohcglaaW.PrintLast Go.Proofs.YtfpkgdenohcglaaW.PrintMore
theorem redact_any (l : List Ent) (m : Nat) (hl : l.length = m) (hm : m ≤ 100000) (i : Int) (A : Option Addr) (c : Nat) (hc : m ≤ c) (w : World) (hr : Re w A l) :
    Calls Try.prog 15 #[.slice A m c, .int .i64 i] w (RetR w (redT l i)) := by
  by_cases h : i < 0 ∨ (m : Int) ≤ i
  · exact redact_bad l m hl hm i h A c w
  · obtain ⟨k, rfl⟩ : ∃ k : Nat, (k : Int) = i := ⟨i.toNat, by omega⟩
    exact redact_in l m hl hm k (by omega) A c hc w hr
theorem rredact_any (l : List Ent) (m : Nat) (hl : l.length = m) (hm : m ≤ 100000) (i : Int) (A : Option Addr) (c : Nat) (hc : m ≤ c) (w : World) (hr : Re w A l) :
    Calls Try.prog 16 #[.slice A m c, .int .i64 i] w (RetR w (redT l i)) := by
  by_cases h : i < 0 ∨ (m : Int) ≤ i
  · exact rredact_bad l m hl hm i h A c w
  · obtain ⟨k, rfl⟩ : ∃ k : Nat, (k : Int) = i := ⟨i.toNat, by omega⟩
    exact rredact_in l m hl hm k (by omega) A c hc w hr
theorem redT_mem (l : List Ent) (i : Int) : ∀ x ∈ (redT l i).1, x ∈ l ∨ ∃ y ∈ l, x = cutE y := by
  by_cases h : i < 0 ∨ (l.length : Int) ≤ i
  · rw [redT_bad l i h]
    intro x hx
    cases hx
  · obtain ⟨k, rfl⟩ : ∃ k : Nat, (k : Int) = i := ⟨i.toNat, by omega⟩
    have hk : k < l.length := by omega
    rw [redT_in l k hk]
    intro x hx
    split at hx
    · cases hx
    · rcases List.mem_or_eq_of_mem_set hx with h1 | h1
      · exact .inl h1
      · exact .inr ⟨l[k], List.getElem_mem hk, h1⟩
theorem redT_len (l : List Ent) (i : Int) : (redT l i).1.length ≤ l.length := by
  by_cases h : i < 0 ∨ (l.length : Int) ≤ i
  · rw [redT_bad l i h]
    exact Nat.zero_le _
  · obtain ⟨k, rfl⟩ : ∃ k : Nat, (k : Int) = i := ⟨i.toNat, by omega⟩
    have hk : k < l.length := by omega
    rw [redT_in l k hk]
    split
    · exact Nat.zero_le _
    · simp
theorem redT_u {l : List Ent} (h : Lu' l) (i : Int) : Lu' (redT l i).1 := fun x hx => by
  rcases redT_mem l i x hx with h1 | ⟨y, h1, rfl⟩
  · exact h x h1
  · exact cutE_u (h y h1)
theorem redT_small {l : List Ent} {n : Nat} (h : ∀ x ∈ l, (payE x).length ≤ n) (i : Int) : ∀ x ∈ (redT l i).1, (payE x).length ≤ n := fun x hx => by
  rcases redT_mem l i x hx with h1 | ⟨y, h1, rfl⟩
  · exact h x h1
  · exact Nat.zero_le _
theorem esame_eq (a : List Ent) (A0 A1 : Option Addr) (c0 c1 : Nat) (w : World) (h0 : Re w A0 a) (h1 : Re w A1 a) (hl : a.length ≤ 1000000) (hs : ∀ x ∈ a, (payE x).length ≤ 1000000) (ha : Lu' a) :
    Calls Try.prog 20 #[.slice A0 a.length c0, .slice A1 a.length c1] w (RetB w true) := by
  have h := esame_c a a A0 A1 c0 c1 w h0 h1 hl hl hs ha ha
  rwa [decide_eq_true rfl] at h
/-- What has been made so far stays. -/
structure AddsI (w W : World) (g : Nat) (x : Ent) (P C : List Value) (B : Option Addr) (cb : Nat) : Prop where
  b : Below w.heap.size w W
  e : EntAt W g x P C B cb
theorem AddsI.step {w W W' : World} {g : Nat} {x : Ent} {P C : List Value} {B : Option Addr} {cb : Nat} (h : AddsI w W g x P C B cb) (hb : Below W.heap.size W W') : AddsI w W' g x P C B cb := ⟨below_step h.b hb, h.e.below hb⟩
set_option maxHeartbeats 16000000 in
set_option maxRecDepth 100000 in
theorem adds_out (l : List Ent) (m : Nat) (hl : l.length = m) (hm : m ≤ 9223372036854775807) (x : Ent) (P C : List Value) (B : Option Addr) (cb : Nat) (n : Int) (A : Option Addr) (c : Nat) (w : World) (hr : Re w A l) (hC : EntC w x P C B cb)
    (h : fewT l = false ∨ 300 < (payE x).length) : Calls Try.prog 3 #[.slice A m c, .agg (cE x P C B cb).toArray, .int .i64 n] w (RetB w true) := by
  unfold RetB
  have H0 := Aside0.mk (show AddsI w (w.alloc (.cells (cE x P C B cb).toArray 27)) w.heap.size x P C B cb from ⟨below_alloc (Below.refl _ _) _, entAt_blk hC.fp.lenC hC.fc.lenC (blk_new _ _)⟩)
  have HFW := Aside0.mk (fun V (hV : Below w.heap.size w V) => few_c l m hl hm A c V (Kd.C_below hr hV))
  obtain ⟨AA, hAA⟩ : ∃ AA, (cE x P C B cb).toArray = AA := ⟨_, rfl⟩
  rw [hAA] at H0 ⊢
  obtain ⟨pl, hpl⟩ : ∃ pl, (payE x).length = pl := ⟨_, rfl⟩
  have HPL := Aside0.mk hpl
  rw [hpl] at h
  clear hr hC hAA hl hm hpl
  obtain ⟨fb, hfb⟩ : ∃ fb, fewT l = fb := ⟨_, rfl⟩
  unfold RetB at HFW
  rw [hfb] at HFW h
  clear hfb
  go_enter Try.func3, Try.ntmps3
  go_upto_region 1 with (fail)
  obtain ⟨W0, hw⟩ : ∃ V, w.alloc (.cells AA 27) = V := ⟨_, rfl⟩
  rw [hw] at H0
  rw [show w.alloc (.cells AA 27) = W0 from hw]
  clear hw
  cases fb with
  | false =>
    clear h
    go_wp2_with (first
      | (go_at_call 11; refine (HFW.out _ H0.out.b).mono ?_; rintro e w1 ⟨rfl, hb⟩; have H1 := Aside0.mk (H0.out.step hb); clear hb)
      | (go_at_call 12; refine (live24_c _).mono ?_; rintro e w2 ⟨rfl, hb⟩; have H2 := Aside0.mk (H1.out.step hb); clear hb))
    go_ret
    exact ⟨rfl, H2.out.b⟩
  | true =>
    have h3 : 300 < pl := by
      rcases h with h | h
      · cases h
      · exact h
    have d1 : decide ((300 : Int) < (pl : Int)) = true := decide_eq_true (by omega)
    have d2 : decide (300 < pl) = true := decide_eq_true h3
    clear h h3
    go_wp2_with (first
      | (go_at_call 11; refine (HFW.out _ H0.out.b).mono ?_; rintro e w1 ⟨rfl, hb⟩; have H1 := Aside0.mk (H0.out.step hb); have hpy := H1.out.e.py; rw [HPL.out] at hpy; clear hb)
      | (go_at_call 12; clear hpy; refine (live24_c _).mono ?_; rintro e w2 ⟨rfl, hb⟩; have H2 := Aside0.mk (H1.out.step hb); clear hb))
    go_ret
    exact ⟨rfl, H2.out.b⟩
set_option maxHeartbeats 16000000 in
set_option maxRecDepth 100000 in
theorem adds_in (l : List Ent) (m : Nat) (hl : l.length = m) (hm : m ≤ 12) (hs : ∀ y ∈ l, (payE y).length ≤ 300) (hf : fewT l = true) (hu : Lu' l) (x : Ent) (hx : Eu x) (hp : (payE x).length ≤ 300) (P C : List Value) (B : Option Addr) (cb : Nat) (n : Int) (A : Option Addr) (c : Nat) (hc : m ≤ c) (w : World) (hr : Re w A l) (hC : EntC w x P C B cb) :
    Calls Try.prog 3 #[.slice A m c, .agg (cE x P C B cb).toArray, .int .i64 n] w (RetB w true) := by
  unfold RetB
  have H0 := Aside0.mk (show AddsI w (w.alloc (.cells (cE x P C B cb).toArray 27)) w.heap.size x P C B cb from ⟨below_alloc (Below.refl _ _) _, entAt_blk hC.fp.lenC hC.fc.lenC (blk_new _ _)⟩)
  have HFW := Aside0.mk (fun V (hV : Below w.heap.size w V) => few_c l m hl (by omega) A c V (Kd.C_below hr hV))
  obtain ⟨AA, hAA⟩ : ∃ AA, (cE x P C B cb).toArray = AA := ⟨_, rfl⟩
  rw [hAA] at H0 ⊢
  unfold RetB at HFW
  rw [hf] at HFW
  have hs5 : ∀ y ∈ l, (payE y).length ≤ 100000 := fun y hy => Nat.le_trans (hs y hy) (by decide)
  have HAD := Aside0.mk (fun V (hV : Below w.heap.size w V) => add_c l m hl (by omega) hu A c hc (saltE x) hx.s0 hx.s1 (payE x) hx.u (by omega) B cb hC.hc V (Kd.C_below hr hV) (Kd.C_below hC.r hV))
  have HAR := Aside0.mk (fun V (hV : Below w.heap.size w V) => radd_c l m hl (by omega) hu A c hc (saltE x) hx.s0 hx.s1 (payE x) hx.u (by omega) B cb hC.hc V (Kd.C_below hr hV) (Kd.C_below hC.r hV))
  have HRD := Aside0.mk (fun V (hV : Below w.heap.size w V) => redact_any l m hl (by omega) (seqE x) A c hc V (Kd.C_below hr hV))
  have HRR := Aside0.mk (fun V (hV : Below w.heap.size w V) => rredact_any l m hl (by omega) (seqE x) A c hc V (Kd.C_below hr hV))
  obtain ⟨D, hD⟩ := sumC (headT l) (headT_len _)
  have HV1 := Aside0.mk (fun V (hV : Below w.heap.size w V) => verify_c l m hl (by omega) hu hs5 (comE x) hx.cl n A c V (Kd.C_below hr hV))
  have HV2 := Aside0.mk (fun V (hV : Below w.heap.size w V) => rverify_c l m hl (by omega) hu hs5 (comE x) hx.cl n A c hc V (Kd.C_below hr hV))
  have HV3 := Aside0.mk (fun V (hV : Below w.heap.size w V) => verify_c l m hl (by omega) hu hs5 (headT l) (headT_len _) (m : Int) A c V (Kd.C_below hr hV))
  have HV4 := Aside0.mk (fun V (hV : Below w.heap.size w V) => rverify_c l m hl (by omega) hu hs5 (headT l) (headT_len _) (m : Int) A c hc V (Kd.C_below hr hV))
  have HHD := Aside0.mk (fun V (hV : Below w.heap.size w V) => head_c l m hl (by omega) hu A c V (Kd.C_below hr hV))
  have HHR := Aside0.mk (fun V (hV : Below w.heap.size w V) => rhead_c l m hl (by omega) hu A c V (Kd.C_below hr hV))
  have HEQ := Aside0.mk (run_eq_sum (headT l) (headT l) (headT_len _) (headT_len _))
  have HSA := Aside0.mk (fun V A0 A1 c0 c1 (h0 : Re V A0 (addT l (saltE x) (payE x))) (h1 : Re V A1 (addT l (saltE x) (payE x))) => esame_eq (addT l (saltE x) (payE x)) A0 A1 c0 c1 V h0 h1 (by rw [addT_eq, List.length_append, List.length_singleton]; omega)
    (fun y hy => by
      rw [addT_eq] at hy
      rcases List.mem_append.1 hy with h | h
      · exact Nat.le_trans (hs y h) (by decide)
      · rw [List.mem_singleton.1 h]; exact Nat.le_trans hp (by decide))
    (fun y hy => by
      rw [addT_eq] at hy
      rcases List.mem_append.1 hy with h | h
      · exact hu y h
      · rw [List.mem_singleton.1 h]; exact newE_u l hx.s0 hx.s1 hx.u))
  have HSR := Aside0.mk (fun V A0 A1 c0 c1 (h0 : Re V A0 (redT l (seqE x)).1) (h1 : Re V A1 (redT l (seqE x)).1) => esame_eq (redT l (seqE x)).1 A0 A1 c0 c1 V h0 h1 (by have := redT_len l (seqE x); omega)
    (fun y hy => Nat.le_trans (redT_small hs (seqE x) y hy) (by decide)) (redT_u hu (seqE x)))
  unfold RetE at HAD HAR
  unfold RetR at HRD HRR
  unfold RetIB at HV1 HV2 HV3 HV4
  unfold RetB at HSA HSR
  unfold Ret at HHD HHR
  rw [hC.fc.v] at HV1 HV2
  rw [hD.v] at HV3 HV4 HHD HHR HEQ
  rw [decide_eq_true rfl] at HEQ
  obtain ⟨LA, hLA⟩ : ∃ L, addT l (saltE x) (payE x) = L := ⟨_, rfl⟩
  obtain ⟨rr, hrr⟩ : ∃ r, redT l (seqE x) = r := ⟨_, rfl⟩
  obtain ⟨LR, er⟩ := rr
  obtain ⟨r1, hr1⟩ : ∃ r, verT l (comE x) n = r := ⟨_, rfl⟩
  obtain ⟨i1, b1⟩ := r1
  obtain ⟨r2, hr2⟩ : ∃ r, verT l (headT l) (m : Int) = r := ⟨_, rfl⟩
  obtain ⟨i2, b2⟩ := r2
  rw [hLA] at HAD HAR HSA
  rw [hrr] at HRD HRR HSR
  rw [hr1] at HV1 HV2
  rw [hr2] at HV3 HV4
  have HIC := Aside0.mk hC.fc.blk
  obtain ⟨pl, hpl⟩ : ∃ pl, (payE x).length = pl := ⟨_, rfl⟩
  have HPL := Aside0.mk hpl
  rw [hpl] at HAD HAR hp
  obtain ⟨sl, hsl⟩ : ∃ v, saltE x = v := ⟨_, rfl⟩
  have HSL := Aside0.mk hsl
  rw [hsl] at HAD HAR
  obtain ⟨sq, hsq⟩ : ∃ v, seqE x = v := ⟨_, rfl⟩
  have HSQ := Aside0.mk hsq
  rw [hsq] at HRD HRR
  have d1 : decide ((300 : Int) < (pl : Int)) = false := decide_eq_false (by omega)
  have d2 : decide (300 < pl) = false := decide_eq_false (by omega)
  have hguard := guard_32
  have hu24 := Try.underlying23
  clear hr hC hAA hl hm hs hf hu hx hp hc hs5 hD hLA hrr hr1 hr2 hpl hsl hsq
  go_enter Try.func3, Try.ntmps3
  go_upto_region 1 with (fail)
  obtain ⟨W0, hw⟩ : ∃ V, w.alloc (.cells AA 27) = V := ⟨_, rfl⟩
  obtain ⟨g, hg⟩ : ∃ g, w.heap.size = g := ⟨_, rfl⟩
  rw [hw] at H0
  rw [show w.alloc (.cells AA 27) = W0 from hw]
  rw [hg] at ⊢
  have H0 := Aside0.mk (show AddsI w W0 g x P C B cb from by rw [← hg]; exact H0.out)
  clear hw
  go_upto_region 3 with (go_at_call 11; refine (HFW.out _ H0.out.b).mono ?_; rintro e w1 ⟨rfl, hb⟩; have H1 := Aside0.mk (H0.out.step hb); have hpy := H1.out.e.py; rw [HPL.out] at hpy; clear hb)
  clear hpy
  have HALL := Aside0.mk (fun V (h : AddsI w V g x P C B cb) => show V.cell? ⟨g, 65, none⟩ = some (.int .u64 sl) ∧ V.cell? ⟨g, 66, none⟩ = some (.slice B pl cb) from And.intro (by rw [← HSL.out]; exact h.e.sl) (by rw [← HPL.out]; exact h.e.py))
  refine wp_region_held_drew (S := fun V => V.cell? ⟨g, 65, none⟩ = some (.int .u64 sl) ∧ V.cell? ⟨g, 66, none⟩ = some (.slice B pl cb)) (by kernel_rfl) (HALL.out _ (H1.out.step (below_drew1 (Below.refl _ _)))) (fun hHeld => ?_)
  (refine wpAnyH_take (i := 0) (v := ?_) rfl (by kernel_rfl) (by kernel_rfl) (by kernel_rfl) (fun _ _ _ h => h) (Or.inl ⟨by rfl, ?_⟩) (by assumption) ?_; (case' refine_2 => (intro w hSw; go_simp; try with_reducible rfl)); (try simp only [Act.put, List.getElem_toArray, List.getElem_cons_zero, List.getElem_cons_succ, List.setIfInBounds_toArray, List.set_cons_zero, List.set_cons_succ]))
  (refine wpAnyH_take (i := 1) (v := ?_) rfl (by kernel_rfl) (by kernel_rfl) (by kernel_rfl) (fun _ _ _ h => h) (Or.inl ⟨by rfl, ?_⟩) (by assumption) ?_; (case' refine_2 => (intro w hSw; go_simp; try with_reducible rfl)); (try simp only [Act.put, List.getElem_toArray, List.getElem_cons_zero, List.getElem_cons_succ, List.setIfInBounds_toArray, List.set_cons_zero, List.set_cons_succ]))
  (refine wpAnyH_take (i := 2) (v := ?_) rfl (by kernel_rfl) (by kernel_rfl) (by kernel_rfl) (fun _ _ _ h => h) (Or.inl ⟨by rfl, ?_⟩) (by assumption) ?_; (case' refine_2 => (intro w hSw; go_simp; try with_reducible rfl)); (try simp only [Act.put, List.getElem_toArray, List.getElem_cons_zero, List.getElem_cons_succ, List.setIfInBounds_toArray, List.set_cons_zero, List.set_cons_succ]))
  (refine wpAnyH_take (i := 3) (v := ?_) rfl (by kernel_rfl) (by kernel_rfl) (by kernel_rfl) (fun _ _ _ h => h) (Or.inl ⟨by rfl, ?_⟩) (by assumption) ?_; (case' refine_2 => (intro w hSw; go_simp; try with_reducible rfl)); (try simp only [Act.put, List.getElem_toArray, List.getElem_cons_zero, List.getElem_cons_succ, List.setIfInBounds_toArray, List.set_cons_zero, List.set_cons_succ]))
  (refine wpAnyH_take (i := 4) (v := ?_) rfl (by kernel_rfl) (by kernel_rfl) (by kernel_rfl) (fun _ _ _ h => h) (Or.inl ⟨by rfl, ?_⟩) (by assumption) ?_; (case' refine_2 => (intro w hSw; go_simp; try with_reducible rfl)); (try simp only [Act.put, List.getElem_toArray, List.getElem_cons_zero, List.getElem_cons_succ, List.setIfInBounds_toArray, List.set_cons_zero, List.set_cons_succ]))
  (refine wpAnyH_take (i := 6) (v := ?_) rfl (by kernel_rfl) (by kernel_rfl) (by kernel_rfl) (fun _ _ _ h => h) (Or.inl ⟨by rfl, ?_⟩) (by assumption) ?_; (case' refine_2 => (intro w hSw; go_simp; try with_reducible rfl)); (try simp only [Act.put, List.getElem_toArray, List.getElem_cons_zero, List.getElem_cons_succ, List.setIfInBounds_toArray, List.set_cons_zero, List.set_cons_succ]))
  (refine wpAnyH_take (i := 7) (v := ?_) rfl (by kernel_rfl) (by kernel_rfl) (by kernel_rfl) (fun _ _ _ h => h) (Or.inl ⟨by rfl, ?_⟩) (by assumption) ?_; (case' refine_2 => (intro w hSw; go_simp; try with_reducible rfl)); (try simp only [Act.put, List.getElem_toArray, List.getElem_cons_zero, List.getElem_cons_succ, List.setIfInBounds_toArray, List.set_cons_zero, List.set_cons_succ]))
  (refine wpAnyH_take (i := 8) (v := ?_) rfl (by kernel_rfl) (by kernel_rfl) (by kernel_rfl) (fun _ _ _ h => h) (Or.inl ⟨by rfl, ?_⟩) (by assumption) ?_; (case' refine_2 => (intro w hSw; go_simp; try with_reducible rfl)); (try simp only [Act.put, List.getElem_toArray, List.getElem_cons_zero, List.getElem_cons_succ, List.setIfInBounds_toArray, List.set_cons_zero, List.set_cons_succ]))
  (refine wpAnyH_take (i := 9) (v := ?_) rfl (by kernel_rfl) (by kernel_rfl) (by kernel_rfl) (fun _ _ _ h => h) (Or.inl ⟨by rfl, ?_⟩) (by assumption) ?_; (case' refine_2 => (intro w hSw; go_simp; try with_reducible rfl)); (try simp only [Act.put, List.getElem_toArray, List.getElem_cons_zero, List.getElem_cons_succ, List.setIfInBounds_toArray, List.set_cons_zero, List.set_cons_succ]))
  (refine wpAnyH_take (i := 10) (v := ?_) rfl (by kernel_rfl) (by kernel_rfl) (by kernel_rfl) (fun _ _ _ h => h) (Or.inl ⟨by rfl, ?_⟩) (by assumption) ?_; (case' refine_2 => (intro w hSw; go_simp; try with_reducible rfl)); (try simp only [Act.put, List.getElem_toArray, List.getElem_cons_zero, List.getElem_cons_succ, List.setIfInBounds_toArray, List.set_cons_zero, List.set_cons_succ]))
  (refine wpAnyH_ready (rs := [5]) (by kernel_rfl) (by simp) (AllReadyH.cons rfl (fun K hK => ?_) AllReadyH.nil); go_simp)
  refine (HAD.out _ (below_drew1 H1.out.b)).mono ?_
  rintro e w2 ⟨v2, rfl, hrw, hb⟩
  have H2 := Aside0.mk (H1.out.step (below_drew_of hb))
  have HA2 := Aside0.mk hrw
  clear hb hrw
  (refine Shut.out hK _ _ (HALL.out _ H2.out) (fun hHeld => ?_); clear hK K; (try simp only [Act.put, List.getElem_toArray, List.getElem_cons_zero, List.getElem_cons_succ, List.setIfInBounds_toArray, List.set_cons_zero, List.set_cons_succ]))
  (refine wpAnyH_ready (rs := [11]) (by kernel_rfl) (by simp) (AllReadyH.cons rfl (fun K hK => ?_) AllReadyH.nil); go_simp)
  refine (HAR.out _ H2.out.b).mono ?_
  rintro e w3 ⟨v3, rfl, hrw, hb⟩
  have H3 := Aside0.mk (H2.out.step hb)
  have HA3 := Aside0.mk (HA2.out.below hb)
  obtain ⟨Aa, ca, hva, hca, hra⟩ := HA3.out.reads
  obtain ⟨Ab, cb2, hvb, hcb, hrb⟩ := hrw.reads
  subst hva
  subst hvb
  have RA3 := Aside0.mk hra
  have RB3 := Aside0.mk hrb
  clear hb hrw hca hra hcb hrb HA2 HA3
  (refine Shut.out hK _ _ (HALL.out _ H3.out) (fun hHeld => ?_); clear hK K; (try simp only [Act.put, List.getElem_toArray, List.getElem_cons_zero, List.getElem_cons_succ, List.setIfInBounds_toArray, List.set_cons_zero, List.set_cons_succ]))
  (refine wpAnyH_take (i := 12) (v := ?_) rfl (by kernel_rfl) (by kernel_rfl) (by kernel_rfl) (fun _ _ _ h => h) (Or.inl ⟨by rfl, ?_⟩) (by assumption) ?_; (case' refine_2 => (intro w hSw; go_simp; try with_reducible rfl)); (try simp only [Act.put, List.getElem_toArray, List.getElem_cons_zero, List.getElem_cons_succ, List.setIfInBounds_toArray, List.set_cons_zero, List.set_cons_succ]))
  (refine wpAnyH_take (i := 13) (v := ?_) rfl (by kernel_rfl) (by kernel_rfl) (by kernel_rfl) (fun _ _ _ h => h) (Or.inl ⟨by rfl, ?_⟩) (by assumption) ?_; (case' refine_2 => (intro w hSw; go_simp; try with_reducible rfl)); (try simp only [Act.put, List.getElem_toArray, List.getElem_cons_zero, List.getElem_cons_succ, List.setIfInBounds_toArray, List.set_cons_zero, List.set_cons_succ]))
  refine wpAnyH_done (by kernel_rfl) ?_ _
  have hsq3 := H3.out.e.s
  rw [HSQ.out] at hsq3
  go_wp2_with (fail)
  clear hsq3
  refine (HRD.out _ H3.out.b).mono ?_
  rintro e w4 ⟨v4, rfl, hrw, hb⟩
  have H4 := Aside0.mk (H3.out.step hb); have RA4 := Aside0.mk (Kd.C_below RA3.out hb); have RB4 := Aside0.mk (Kd.C_below RB3.out hb)
  obtain ⟨Ac, cc, hvc, hcc, hrc⟩ := hrw.reads
  subst hvc
  have RC4 := Aside0.mk hrc
  clear hb hrw hcc hrc
  have hsq4 := H4.out.e.s
  rw [HSQ.out] at hsq4
  go_wp2_with (fail)
  clear hsq4
  refine (HRR.out _ H4.out.b).mono ?_
  rintro e w5 ⟨v5, rfl, hrw, hb⟩
  have H5 := Aside0.mk (H4.out.step hb); have RA5 := Aside0.mk (Kd.C_below RA4.out hb); have RB5 := Aside0.mk (Kd.C_below RB4.out hb); have RC5 := Aside0.mk (Kd.C_below RC4.out hb)
  obtain ⟨Ad, cd, hvd, hcd, hrd⟩ := hrw.reads
  subst hvd
  have RD5 := Aside0.mk hrd
  clear hb hrw hcd hrd
  go_wp2_with ((with_reducible refine gate_dst (N := 60) rfl ?_); refine wpList_load_at rfl 23 (.tmp 59) rfl ⟨g, 33, none⟩ rfl C _ H5.out.e.fc Try.underlying23 rfl HIC.out ?_)
  refine (HV1.out _ H5.out.b).mono ?_
  rintro e w6 ⟨rfl, hb⟩
  have H6 := Aside0.mk (H5.out.step hb); have RA6 := Aside0.mk (Kd.C_below RA5.out hb); have RB6 := Aside0.mk (Kd.C_below RB5.out hb); have RC6 := Aside0.mk (Kd.C_below RC5.out hb); have RD6 := Aside0.mk (Kd.C_below RD5.out hb)
  clear hb
  go_wp2_with ((with_reducible refine gate_dst (N := 68) rfl ?_); refine wpList_load_at rfl 23 (.tmp 67) rfl ⟨g, 33, none⟩ rfl C _ H6.out.e.fc Try.underlying23 rfl HIC.out ?_)
  refine (HV2.out _ H6.out.b).mono ?_
  rintro e w7 ⟨rfl, hb⟩
  have H7 := Aside0.mk (H6.out.step hb); have RA7 := Aside0.mk (Kd.C_below RA6.out hb); have RB7 := Aside0.mk (Kd.C_below RB6.out hb); have RC7 := Aside0.mk (Kd.C_below RC6.out hb); have RD7 := Aside0.mk (Kd.C_below RD6.out hb)
  clear hb
  go_wp2_with (fail)
  refine (HHR.out _ H7.out.b).mono ?_
  rintro e w8 ⟨rfl, hb⟩
  have H8 := Aside0.mk (H7.out.step hb); have RA8 := Aside0.mk (Kd.C_below RA7.out hb); have RB8 := Aside0.mk (Kd.C_below RB7.out hb); have RC8 := Aside0.mk (Kd.C_below RC7.out hb); have RD8 := Aside0.mk (Kd.C_below RD7.out hb)
  clear hb
  go_wp2_with (fail)
  refine (HV3.out _ H8.out.b).mono ?_
  rintro e w9 ⟨rfl, hb⟩
  have H9 := Aside0.mk (H8.out.step hb); have RA9 := Aside0.mk (Kd.C_below RA8.out hb); have RB9 := Aside0.mk (Kd.C_below RB8.out hb); have RC9 := Aside0.mk (Kd.C_below RC8.out hb); have RD9 := Aside0.mk (Kd.C_below RD8.out hb)
  clear hb
  go_wp2_with (fail)
  refine (HHR.out _ H9.out.b).mono ?_
  rintro e w10 ⟨rfl, hb⟩
  have H10 := Aside0.mk (H9.out.step hb); have RA10 := Aside0.mk (Kd.C_below RA9.out hb); have RB10 := Aside0.mk (Kd.C_below RB9.out hb); have RC10 := Aside0.mk (Kd.C_below RC9.out hb); have RD10 := Aside0.mk (Kd.C_below RD9.out hb)
  clear hb
  go_wp2_with (fail)
  refine (HV4.out _ H10.out.b).mono ?_
  rintro e w11 ⟨rfl, hb⟩
  have H11 := Aside0.mk (H10.out.step hb); have RA11 := Aside0.mk (Kd.C_below RA10.out hb); have RB11 := Aside0.mk (Kd.C_below RB10.out hb); have RC11 := Aside0.mk (Kd.C_below RC10.out hb); have RD11 := Aside0.mk (Kd.C_below RD10.out hb)
  clear hb
  have heq := HEQ.out
  go_wp2_with (fail)
  refine (HSA.out _ Aa Ab ca cb2 RA11.out RB11.out).mono ?_
  rintro e w12 ⟨rfl, hb⟩
  have H12 := Aside0.mk (H11.out.step hb); have RC12 := Aside0.mk (Kd.C_below RC11.out hb); have RD12 := Aside0.mk (Kd.C_below RD11.out hb)
  clear hb
  go_wp2_with (fail)
  refine (HSR.out _ Ac Ad cc cd RC12.out RD12.out).mono ?_
  rintro e w13 ⟨rfl, hb⟩
  have H13 := Aside0.mk (H12.out.step hb)
  clear hb
  go_wp2_with (fail)
  refine (num24_c er _).mono ?_
  rintro e w14 ⟨rfl, rfl⟩
  go_wp2_with (fail)
  refine (HHD.out _ H13.out.b).mono ?_
  rintro e w15 ⟨rfl, hb⟩
  have H14 := Aside0.mk (H13.out.step hb)
  clear hb
  go_wp2_with (fail)
  refine (HHR.out _ H14.out.b).mono ?_
  rintro e w16 ⟨rfl, hb⟩
  have H15 := Aside0.mk (H14.out.step hb)
  clear hb
  go_wp2_with (fail)
  clear heq
  refine (live24_c _).mono ?_
  rintro e w17 ⟨rfl, hb⟩
  have H16 := Aside0.mk (H15.out.step hb)
  clear hb
  go_wp2_with (fail)
  go_ret
  exact ⟨rfl, H16.out.b⟩
theorem adds_walk (l : List Ent) (hu : Lu' l) (x : Ent) (hx : Eu x) (P C : List Value) (B : Option Addr) (cb : Nat) (n : Int) (A : Option Addr) (c : Nat) (hc : l.length ≤ c) (w : World) (hr : Re w A l) (hC : EntC w x P C B cb) :
    Calls Try.prog 3 #[.slice A l.length c, .agg (cE x P C B cb).toArray, .int .i64 n] w (RetB w true) := by
  by_cases h : fewT l = true ∧ (payE x).length ≤ 300
  · have h2 := fewT_yes h.1
    exact adds_in l l.length rfl h2.1 h2.2 h.1 hu x hx h.2 P C B cb n A c hc w hr hC
  · refine adds_out l l.length rfl hr.2.1 x P C B cb n A c w hr hC ?_
    by_cases h1 : fewT l = true
    · exact .inr (Nat.lt_of_not_le (fun h2 => h ⟨h1, h2⟩))
    · exact .inl (by simpa using h1)
end Go.Proofs.Ytfpkgdenohcglaa.Chn
/- Entries that came in; the laws' walks, as the rows ask for them. -/
namespace Go.Proofs.Ytfpkgdenohcglaa.Chn
set_option linter.unusedVariables false
open Go.RowKit Go.Proofs.Ytfpkgdenohcglaa.Base Go.Proofs.Ytfpkgdenohcglaa.TlvPlain Go.Proofs.Ytfpkgdenohcglaa.ShaPlain Go.Proofs.Ytfpkgdenohcglaa.Sha Go.Proofs.Ytfpkgdenohcglaa.Com Go.Proofs.Ytfpkgdenohcglaa.Aid Go.Proofs.YtfpkgdenohcglaaW.PrintWords
abbrev okE (x : Ent) : Prop := (Lit.int .i64 x.1).wf = true ∧ (∀ y ∈ x.2.1, (Lit.int .u8 y).wf = true) ∧ (∀ y ∈ x.2.2.1, (Lit.int .u8 y).wf = true) ∧ (Lit.int .u64 x.2.2.2.1).wf = true ∧ (∀ y ∈ x.2.2.2.2.1, (Lit.int .u8 y).wf = true) ∧ True
theorem opens_sum : Open.Opens Try.prog 23 KS (fun xs => ∀ y ∈ xs, (Lit.int .u8 y).wf = true) :=
  Open.opens_array (hs := by decide) Try.underlying23 (by kernel_rfl) (by kernel_rfl) (Open.opens_int Try.underlying5)
theorem opens_ent : Open.Opens Try.prog 27 DEnt okE := by
  have h := (show Open.Opens Try.prog 27 _ _ from Open.opens_struct Try.underlying27 (by kernel_rfl) (fun n => Open.opensF_cons rfl (by kernel_rfl) (Open.opens_int Try.underlying3 n) (Open.opensF_cons rfl (by kernel_rfl) (opens_sum n) (Open.opensF_cons rfl (by kernel_rfl) (opens_sum n)
    (Open.opensF_cons rfl (by kernel_rfl) (Open.opens_int Try.underlying24 n) (Open.opensF_cons rfl (by kernel_rfl) (Open.opens_slice Try.underlying25 (by kernel_rfl) (Open.opens_int Try.underlying5) n) (Open.opensF_one rfl (by kernel_rfl) (Open.opens_bool Try.underlying4 n))))))))
  exact h
theorem opens_ents : Open.Opens Try.prog 22 (Kd.slice 27 DEnt) (fun xs => ∀ x ∈ xs, okE x) := Open.opens_slice Try.underlying22 (by kernel_rfl) opens_ent
theorem eu_of {w : World} {x : Ent} {P C : List Value} {A : Option Addr} {c : Nat} (hC : EntC w x P C A c) (ok : okE x) : Eu x :=
  ⟨hC.fp.len, fun y hy => byte_wf (ok.2.1 y hy), hC.fc.len, fun y hy => byte_wf (ok.2.2.1 y hy), (u64_wf ok.2.2.2.1).1, (u64_wf ok.2.2.2.1).2, fun y hy => byte_wf (ok.2.2.2.2.1 y hy)⟩
theorem lu_of {w : World} {A : Option Addr} {l : List Ent} (hr : Re w A l) (ok : ∀ x ∈ l, okE x) : Lu' l := fun x hx => by
  obtain ⟨i, hi, rfl⟩ := List.mem_iff_getElem.1 hx
  obtain ⟨_, _, _, _, _, _, _, h⟩ := re_at hr i hi
  exact eu_of h (ok _ hx)
theorem addsWalk (w : World) (A : Option Addr) (c : Nat) (l : List Ent) (hr : Re w A l) (hc : l.length ≤ c) (ok : ∀ x ∈ l, okE x) (x : Ent) (cs : Array Value) (hK : DEnt.K w x cs.toList) (okx : okE x) (n : Int) (_ : (Lit.int .i64 n).wf = true) :
    Calls Try.prog 3 #[.slice A l.length c, .agg cs, .int .i64 n] w fun e w' => e = .returned (.bool true) ∧ Below w.heap.size w w' := by
  obtain ⟨P, C, B, cb, hC, he⟩ := ent_open hK
  have h : cs = (cE x P C B cb).toArray := by rw [← he]
  subst h
  exact adds_walk l (lu_of hr ok) x (eu_of hC okx) P C B cb n A c hc w hr hC
end Go.Proofs.Ytfpkgdenohcglaa.Chn
