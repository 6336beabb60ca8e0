
/-
The law of the muting of Jets.
-/
import Derived.Test.YtbkafmikaojclaaLqJet
import Derived.Test.YtbkafmikaojclaaMaJet
import Derived.Test.YtbkafmikaojclaaMcJet
import Derived.Test.YtbkafmikaojclaaMdJet
namespace Go.Proofs.Ytbkafmikaojclaa
open Go Go.RowKit Fl
theorem k_MuteJet (a1 : Option Addr) (n1 c1 : Nat) (xs1 : List Nat) (i1 : Int) (a2 : Option Addr) (n2 c2 : Nat) (xs2 : List Nat) (i2 : Int) (k1 : Int) (f1_0 f1_1 f1_2 f1_3 f1_4 : Nat) (k2 : Int) (f2_0 f2_1 f2_2 f2_3 f2_4 : Nat) (x1 : Nat) (x2 : Nat) (w : World) (h_1 : FS w a1 n1 c1 xs1) (h_2 : FS w a2 n2 c2 xs2) :
    Calls Try.prog 14 #[.agg #[.slice a1 n1 c1, .int .i64 i1, .slice a2 n2 c2, .int .i64 i2, .int .i64 k1, .float .f32 f1_0, .float .f32 f1_1, .float .f32 f1_2, .float .f32 f1_3, .float .f32 f1_4, .int .i64 k2, .float .f32 f2_0, .float .f32 f2_1, .float .f32 f2_2, .float .f32 f2_3, .float .f32 f2_4, .float .f32 x1, .float .f32 x2]] w (RetV (.bool true) w) := by
  cases hv : valJet n1 xs1 i1 n2 xs2 i2 k1 f1_0 f1_1 f1_2 f1_3 f1_4 k2 f2_0 f2_1 f2_2 f2_3 f2_4 x1 x2
  · exact l_MuteJet a1 n1 c1 xs1 i1 a2 n2 c2 xs2 i2 k1 f1_0 f1_1 f1_2 f1_3 f1_4 k2 f2_0 f2_1 f2_2 f2_3 f2_4 x1 x2 0 [] 0 0 [] 0 0 0 0 0 0 0 0 0 0 0 0 0 0 0 1 w h_1 h_2 (by omega) (by omega) (fun W _ _ _ _ j1 j2 => c_sMuteJet_no _ _ _ _ _ _ _ _ _ _ _ _ _ _ _ _ _ _ _ _ _ _ _ _ W j1 j2 hv) (fun W _ _ _ _ j1 j2 => c_MuteJet_no _ _ _ _ _ _ _ _ _ _ _ _ _ _ _ _ _ _ _ _ _ _ _ _ W j1 j2 hv)
  · have hr1 : ringB n1 i1 = true := valJet_r1 hv
    unfold ringB at hr1
    rw [Bool.and_eq_true] at hr1
    have hn1 := inB_yes hr1.1
    have hr2 : ringB n2 i2 = true := valJet_r2 hv
    unfold ringB at hr2
    rw [Bool.and_eq_true] at hr2
    have hn2 := inB_yes hr2.1
    exact l_MuteJet a1 n1 c1 xs1 i1 a2 n2 c2 xs2 i2 k1 f1_0 f1_1 f1_2 f1_3 f1_4 k2 f2_0 f2_1 f2_2 f2_3 f2_4 x1 x2 n1 (List.replicate n1 0) i1 n2 (List.replicate n2 0) i2 k1 f1_0 f1_1 f1_2 0 0 k2 f2_0 f2_1 f2_2 0 0 x1 x2 0 w h_1 h_2 (by omega) (by omega) (fun W _ _ _ _ j1 j2 => c_sMuteJet_ok _ _ _ _ _ _ _ _ _ _ _ _ _ _ _ _ _ _ _ _ _ _ _ _ W j1 j2 hv) (fun W _ _ _ _ j1 j2 => c_MuteJet_ok _ _ _ _ _ _ _ _ _ _ _ _ _ _ _ _ _ _ _ _ _ _ _ _ W j1 j2 hv)


end Go.Proofs.Ytbkafmikaojclaa
