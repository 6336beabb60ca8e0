
/-
Are rooms the same: the law, joined.
-/
import Derived.Test.YtfhegjjgfaeinaaZc
import Derived.Test.YtfhegjjgfaeinaaZw
namespace Go.Proofs.Ytfhegjjgfaeinaa
open Go Go.RowKit Fl
theorem roomS_same {r s r' s' : Rv} (h : r'.strip = r.strip) (h' : s'.strip = s.strip) : roomS r' s' = roomS r s := by rw [← roomS_strip r' s', h, h', roomS_strip r s]
theorem c_sSameRoom (r s : Rv) (w : World) (h : RvM w r) (h' : RvM w s) : Calls Try.prog 34 #[.agg r.cells, .agg s.cells] w (RetV (.bool (roomS r s)) w) := by
  have N := Lib.hid h
  have N' := Lib.hid h'
  clear h h'
  go_enter Try.func34, Try.ntmps34
  go_wp2_with fail
  have K := two_alloc w (.cells r.cells 51) (.cells s.cells 51)
  have HK := Lib.hid K
  clear K
  refine (c_l06Same _ _ r s _ HK.out.1 HK.out.2.1 (RvM.below (B := w.heap.size) N.out HK.out.2.2.2 (Nat.le_refl _)) (RvM.below (B := w.heap.size) N'.out HK.out.2.2.2 (Nat.le_refl _))).mono ?_
  rintro e w1 ⟨rfl, hb1⟩
  have b1 : Below w.heap.size w w1 := HK.out.2.2.2.trans (hb1.mono HK.out.2.2.2.size)
  go_wp2
  go_ret
  exact ⟨rfl, b1⟩
theorem k_SameRoom (r s : Rv) (w : World) (h : RvM w r) (h' : RvM w s) : Calls Try.prog 9 #[.agg r.cells, .agg s.cells] w (RetV (.bool true) w) :=
  l_SameRoom r s (roomS r s) w h h' (fun W a b ha hb e e' => roomS_same e e' ▸ c_sSameRoom a b W ha hb) (fun W a b ha hb e e' => roomS_same e e' ▸ c_SameRoom a b W ha hb)
end Go.Proofs.Ytfhegjjgfaeinaa
