/- Own and printed texts, laid together. -/
import Derived.Test.YtfpkgdenohcglaaCrMG
import Derived.Test.YtfpkgdenohcglaaCrMC
/- Certificates that came in; the law CertMakes, as the row asks for it. -/
namespace Go.Proofs.Ytfpkgdenohcglaa.Crt
set_option linter.unusedVariables false
open Go.RowKit Go.Proofs.Ytfpkgdenohcglaa.Base Go.Proofs.Ytfpkgdenohcglaa.TlvPlain Go.Proofs.Ytfpkgdenohcglaa.ShaPlain Go.Proofs.Ytfpkgdenohcglaa.Sha Go.Proofs.Ytfpkgdenohcglaa.Com Go.Proofs.Ytfpkgdenohcglaa.Chn Go.Proofs.Ytfpkgdenohcglaa.Aid Go.Proofs.YtfpkgdenohcglaaW.PrintWords
abbrev DC : Kd Cer := Kd.pair Kd.string (Kd.pair (Kd.int .i64) (Kd.pair (Kd.int .u64) (Kd.slice 5 (Kd.int .u8))))
abbrev okC (x : Cer) : Prop := x.1.size ≤ maxLen ∧ (Lit.int .i64 x.2.1).wf = true ∧ (Lit.int .u64 x.2.2.1).wf = true ∧ (∀ y ∈ x.2.2.2, (Lit.int .u8 y).wf = true)
theorem opens_cert : Open.Opens Try.prog 53 DC okC := by
  have h := (show Open.Opens Try.prog 53 _ _ from Open.opens_struct Try.underlying53 (by kernel_rfl) (fun n => Open.opensF_cons rfl (by kernel_rfl) (Open.opens_string Try.underlying9 n) (Open.opensF_cons rfl (by kernel_rfl) (Open.opens_int Try.underlying3 n)
    (Open.opensF_cons rfl (by kernel_rfl) (Open.opens_int Try.underlying24 n) (Open.opensF_one rfl (by kernel_rfl) (Open.opens_slice Try.underlying25 (by kernel_rfl) (Open.opens_int Try.underlying5) n))))))
  exact h
theorem cert_open {w : World} {x : Cer} {cs : Array Value} (hK : DC.K w x cs.toList) : ∃ B cb, x.2.2.2.length ≤ cb ∧ Rb w B x.2.2.2 ∧ cs = #[.string x.1, .int .i64 x.2.1, .int .u64 x.2.2.1, .slice B x.2.2.2.length cb] := by
  obtain ⟨c0, cr, e0, h0, c1, cr1, e1, h1, c2, c3, e2, h2, B, cb, h3, hc, hr⟩ := hK
  refine ⟨B, cb, hc, hr, ?_⟩
  have h0' : c0 = [Value.string x.1] := h0
  have h1' : c1 = [Value.int .i64 x.2.1] := h1
  have h2' : c2 = [Value.int .u64 x.2.2.1] := h2
  subst h0' h1' h2' h3 e2 e1
  apply Array.toList_inj.1
  rw [e0]
  rfl
theorem cerU_of {x : Cer} (ok : okC x) (hl : x.2.2.2.length ≤ 100000) : CerU x := ⟨(u64_wf ok.2.2.1).1, (u64_wf ok.2.2.1).2, fun y hy => byte_wf (ok.2.2.2 y hy), hl⟩
theorem huge_no {x : Cer} (h : hugeB x = false) : x.2.2.2.length ≤ 300 ∧ x.1.size ≤ 100 := by
  unfold hugeB at h
  simp only [Bool.or_eq_false_iff, decide_eq_false_iff_not] at h
  omega
theorem makesWalk (w : World) (A : Option Addr) (c : Nat) (l : List Ent) (hr : Re w A l) (hc : l.length ≤ c) (ok : ∀ x ∈ l, okE x) (i : Int) (_ : (Lit.int .i64 i).wf = true) (x : Cer) (cs : Array Value) (hK : DC.K w x cs.toList) (okx : okC x) :
    Calls Try.prog 6 #[.slice A l.length c, .int .i64 i, .agg cs] w fun e w' => e = .returned (.bool true) ∧ Below w.heap.size w w' := by
  obtain ⟨B, cb, hcb, hp, rfl⟩ := cert_open hK
  have l1 : l.length ≤ 9223372036854775807 := hr.2.1
  by_cases fa : fewT l = true
  · by_cases hh : hugeB x = false
    · obtain ⟨ha, sa⟩ := fewT_yes fa
      exact makes_main l _ rfl A c i x B cb hcb w hr hp ha (lu_of hr ok) sa fa (cerU_of okx (Nat.le_trans (huge_no hh).1 (by decide))) hh
    · exact makes_no l _ rfl A c i x B cb hcb w hr hp l1 (.inr (by simpa using hh))
  · exact makes_no l _ rfl A c i x B cb hcb w hr hp l1 (.inl (by simpa using fa))
end Go.Proofs.Ytfpkgdenohcglaa.Crt
