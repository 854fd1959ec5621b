import Derived.Test.YtobljmgoengofaaLoEv
/- The lowest functions, each with what it answers. -/
namespace Go.Proofs.Ytobljmgoengofaa.Lo
open Go.Proofs.Ytobljmgoengofaa.Base Go.Proofs.Ytobljmgoengofaa.TlvPlain Go.Proofs.Ytobljmgoengofaa.Aid Go.RowKit Go.Proofs.YtobljmgoengofaaW.PrintWords Go.Proofs.YtobljmgoengofaaW.PrintLast Go.Proofs.YtobljmgoengofaaW.PrintMore Go.Proofs.Ytobljmgoengofaa.PZ

/-- New bytes. -/
def Makes (w : World) (bs : List Int) (e : Ending) (w' : World) : Prop := ∃ v : Value, e = .returned v ∧ Ob w' w.heap.size v bs ∧ Below w.heap.size w w'
theorem same_c (A0 : Option Addr) (c0 : Nat) (a : List Int) (A1 : Option Addr) (c1 : Nat) (b : List Int) (w : World) (h0 : Rb w A0 a) (hc0 : a.length ≤ c0) (h1 : Rb w A1 b) (hc1 : b.length ≤ c1) (hn : a.length ≤ 4611686018427387904) :
    Calls Try.prog 18 #[.slice A0 a.length c0, .slice A1 b.length c1] w fun e w' => e = .returned (.bool (decide (a = b))) ∧ Drawn0 w w' := by
  obtain ⟨k, h⟩ := (same_ev a b hn).rounds
  exact hanaperref01_Same.calls k A0 c0 a A1 c1 b _ w h0 hc0 h1 hc1 h
theorem same_n (A0 : Option Addr) (c0 n0 : Nat) (a : List Int) (A1 : Option Addr) (c1 n1 : Nat) (b : List Int) (w : World) (h0 : Rb w A0 a) (e0 : a.length = n0) (hc0 : n0 ≤ c0) (h1 : Rb w A1 b) (e1 : b.length = n1) (hc1 : n1 ≤ c1) (hn : n0 ≤ 4611686018427387904) :
    Calls Try.prog 18 #[.slice A0 n0 c0, .slice A1 n1 c1] w fun e w' => e = .returned (.bool (decide (a = b))) ∧ Drawn0 w w' := by
  subst e0; subst e1
  exact same_c A0 c0 a A1 c1 b w h0 hc0 h1 hc1 hn
theorem num_c (n : Int) (w : World) (h0 : 0 ≤ n) (h1 : n ≤ 18446744073709551615) : Calls Try.prog 52 #[.int .u64 n] w (Makes w (numB n)) := by
  obtain ⟨k, h⟩ := (num_ev n h0 h1).rounds
  exact tlv_Num.calls k n _ w h
theorem rnum_c (n : Int) (w : World) (h0 : 0 ≤ n) (h1 : n ≤ 18446744073709551615) : Calls Try.prog 53 #[.int .u64 n] w (Makes w (numB n)) := by
  obtain ⟨k, h⟩ := (rnum_ev n h0 h1).rounds
  exact hanaperref01_Num.calls k n _ w h
theorem text_c (A0 : Option Addr) (c0 : Nat) (l : List Int) (w : World) (hr : Rb w A0 l) (hc : l.length ≤ c0) (hl : l.length < 140737488355000) : Calls Try.prog 50 #[.slice A0 l.length c0] w (Makes w (textB l)) := by
  obtain ⟨k, h⟩ := (text_ev l hl).rounds
  exact tlv_Text.calls k A0 c0 l _ w hr hc h
theorem rtext_c (A0 : Option Addr) (c0 : Nat) (l : List Int) (w : World) (hr : Rb w A0 l) (hc : l.length ≤ c0) (hl : l.length < 140737488355000) : Calls Try.prog 51 #[.slice A0 l.length c0] w (Makes w (textB l)) := by
  obtain ⟨k, h⟩ := (rtext_ev l hl).rounds
  exact hanaperref01_Text.calls k A0 c0 l _ w hr hc h
theorem int_c (n : Int) (w : World) : Calls Try.prog 54 #[.int .i64 n] w (Makes w (intB n)) := by
  obtain ⟨k, h⟩ := (int_ev n).rounds
  exact tlv_Int.calls k n _ w h
theorem rint_c (n : Int) (w : World) : Calls Try.prog 55 #[.int .i64 n] w (Makes w (intB n)) := by
  obtain ⟨k, h⟩ := (rint_ev n).rounds
  exact hanaperref01_Int.calls k n _ w h
theorem all_c (A0 : Option Addr) (c0 : Nat) (l : List (List Int)) (w : World) (hr : Kd.C (Kd.slice 5 (Kd.int .u8)) w A0 l.length l) (hc : l.length ≤ c0) (hl : l.length ≤ 4611686018427387904) (ht : l.flatten.length < 140737488355328) :
    Calls Try.prog 56 #[.slice A0 l.length c0] w (Makes w l.flatten) := by
  obtain ⟨k, h⟩ := (all_ev l hl ht).rounds
  exact tlv_All.calls k A0 c0 l _ w hr hc h
theorem copy_c (A0 : Option Addr) (c0 : Nat) (l : List Int) (w : World) (hr : Rb w A0 l) (hc : l.length ≤ c0) (hl : l.length < 140737488355328) : Calls Try.prog 37 #[.slice A0 l.length c0] w (Makes w l) :=
  hanaperref01_Copy.calls A0 c0 l _ w hr hc (copy_ev l hl)
theorem copy_n (A0 : Option Addr) (c0 n : Nat) (l : List Int) (w : World) (hr : Rb w A0 l) (hn : l.length = n) (hc : n ≤ c0) (hl : n < 140737488355328) : Calls Try.prog 37 #[.slice A0 n c0] w (Makes w l) := by
  subst hn
  exact copy_c A0 c0 l w hr hc hl
theorem value_c (A0 : Option Addr) (c0 : Nat) (l : List Int) (w : World) (hr : Rb w A0 l) (hc : l.length ≤ c0) (hu : U8 l) (h8 : l.length ≤ 8) :
    Calls Try.prog 69 #[.slice A0 l.length c0] w fun e w' => e = .returned (.int .u64 (valueB l)) ∧ Drawn0 w w' := by
  obtain ⟨k, h⟩ := (value_ev l hu h8).rounds
  exact hanaperref01_Value.calls k A0 c0 l _ w hr hc h
end Go.Proofs.Ytobljmgoengofaa.Lo
