
/-
The law of the text of a jet.
-/
import Derived.Test.YtbdanadmabemdaaDoorLtJet
import Derived.Test.YtbdanadmabemdaaDoorHmJet
namespace Go.Proofs.YtbdanadmabemdaaDoor
open Go Go.RowKit Fl
theorem k_JetText (a1 : Option Addr) (n1 c1 : Nat) (xs1 : List Nat) (i1 : Int) (a2 : Option Addr) (n2 c2 : Nat) (xs2 : List Nat) (i2 : Int) (k1 : Int) (f1_0 f1_1 f1_2 f1_3 f1_4 : Nat) (k2 : Int) (f2_0 f2_1 f2_2 f2_3 f2_4 : Nat) (x1 : Nat) (x2 : Nat) (w : World) (hT : Tb w) (h_1 : FS w a1 n1 c1 xs1) (h_2 : FS w a2 n2 c2 xs2) (hx1 : ∀ i, nth xs1 i < 4294967296) (hx2 : ∀ i, nth xs2 i < 4294967296) (g1_0 : f1_0 < 4294967296) (g1_1 : f1_1 < 4294967296) (g1_2 : f1_2 < 4294967296) (g1_3 : f1_3 < 4294967296) (g1_4 : f1_4 < 4294967296) (g2_0 : f2_0 < 4294967296) (g2_1 : f2_1 < 4294967296) (g2_2 : f2_2 < 4294967296) (g2_3 : f2_3 < 4294967296) (g2_4 : f2_4 < 4294967296) (y1 : x1 < 4294967296) (y2 : x2 < 4294967296) :
    Calls Tryd.prog 4 #[.agg #[.slice a1 n1 c1, .int .i64 i1, .slice a2 n2 c2, .int .i64 i2, .int .i64 k1, .float .f32 f1_0, .float .f32 f1_1, .float .f32 f1_2, .float .f32 f1_3, .float .f32 f1_4, .int .i64 k2, .float .f32 f2_0, .float .f32 f2_1, .float .f32 f2_2, .float .f32 f2_3, .float .f32 f2_4, .float .f32 x1, .float .f32 x2]] w (RetV (.bool true) w) := by
  cases hv : valJet n1 xs1 i1 n2 xs2 i2 k1 f1_0 f1_1 f1_2 f1_3 f1_4 k2 f2_0 f2_1 f2_2 f2_3 f2_4 x1 x2
  · exact l_JetText a1 n1 c1 xs1 i1 a2 n2 c2 xs2 i2 k1 f1_0 f1_1 f1_2 f1_3 f1_4 k2 f2_0 f2_1 f2_2 f2_3 f2_4 x1 x2 ⟨([] : List UInt8).toArray⟩ w Tb (fun _ _ _ h hb hB => h.below hb hB) hT h_1 h_2 (fun W _ _ _ _ _ j1 j2 => c_sJetText_no _ _ _ _ _ _ _ _ _ _ _ _ _ _ _ _ _ _ _ _ _ _ _ _ W j1 j2 hv) (fun W _ _ _ _ _ j1 j2 => c_iJetText_no _ _ _ _ _ _ _ _ _ _ _ _ _ _ _ _ _ _ _ _ _ _ _ _ W j1 j2 hv)
  · have hv2 := hv
    unfold valJet at hv2
    simp only [Bool.and_eq_true, beq_iff_eq] at hv2
    obtain ⟨⟨⟨⟨⟨r1, _⟩, r2, _⟩, ok1, rfl⟩, ok2, rfl⟩, _⟩ := hv2
    unfold ringB at r1
    simp only [Bool.and_eq_true] at r1
    have p1 := inB_yes r1.1
    have s1 := inB_yes r1.2
    obtain ⟨m1, rfl⟩ := Int.eq_ofNat_of_zero_le s1.1
    unfold ringB at r2
    simp only [Bool.and_eq_true] at r2
    have p2 := inB_yes r2.1
    have s2 := inB_yes r2.2
    obtain ⟨m2, rfl⟩ := Int.eq_ofNat_of_zero_le s2.1
    exact l_JetText a1 n1 c1 xs1 (m1 : Int) a2 n2 c2 xs2 (m2 : Int) 1 f1_0 f1_1 f1_2 f1_3 f1_4 5 f2_0 f2_1 f2_2 f2_3 f2_4 x1 x2 ⟨(txJet n1 xs1 m1 n2 xs2 m2 f1_0 f1_1 f1_2 f1_3 f1_4 f2_0 f2_1 f2_2 f2_3 f2_4 x1 x2).toArray⟩ w Tb (fun _ _ _ h hb hB => h.below hb hB) hT h_1 h_2 (fun W _ _ _ _ _ j1 j2 => c_sJetText_ok _ _ _ _ _ _ _ _ _ _ _ _ _ _ _ _ _ _ _ _ _ _ W j1 j2 (by omega) (by omega) (by omega) hx1 (by omega) (by omega) (by omega) hx2 ok1 g1_0 g1_1 g1_2 g1_3 g1_4 ok2 g2_0 g2_1 g2_2 g2_3 g2_4 y1 y2 hv) (fun W _ _ _ _ t j1 j2 => c_iJetText_ok _ _ _ _ _ _ _ _ _ _ _ _ _ _ _ _ _ _ _ _ _ _ W t j1 j2 (by omega) (by omega) (by omega) hx1 (by omega) (by omega) (by omega) hx2 ok1 g1_0 g1_1 g1_2 g1_3 g1_4 ok2 g2_0 g2_1 g2_2 g2_3 g2_4 y1 y2 hv)
end Go.Proofs.YtbdanadmabemdaaDoor
