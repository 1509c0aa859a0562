/- What the rows' lists give: the table strings.asciiSpace lies as the program's text lays it. -/
import Derived.Test.YtldejfkplnejjaaDoorOpen
import Derived.Test.YtldejfkplnejjaaDoorExtFields
import Derived.MakeChecks
namespace Go.Proofs.YtldejfkplnejjaaDoor.Open
theorem gT : Tryd.prog.globalNamed "strings.asciiSpace" = some 0 := by kernel_rfl
theorem gTy : (Tryd.prog.globals[0]?).map (·.type) = some 162 := by kernel_rfl
theorem tab_is : (Rows.laid_strings_asciiSpace : DataW Unit) = Lib.tabData .u8 Lib.asciiSpaceTab := by kernel_rfl
theorem glob_of {W : World} (h : laidMetH Tryd.prog [("unicode/utf8.acceptRanges", Rows.laid_unicode_utf8_acceptRanges), ("unicode.White_Space", Rows.laid_unicode_White_Space), ("strings.asciiSpace", Rows.laid_strings_asciiSpace), ("unicode/utf8.first", Rows.laid_unicode_utf8_first)] W) : P.Glob W := by
  rw [MakeChecks.laidMetH_plain _ _ _ (by kernel_rfl)] at h
  obtain ⟨ps, ⟨ga, ta, csa, fa, pa, qa, hga, hta, hva, hda, ⟨g0, t0, cs0, f0, p0, q0, hg0, ht0, hv0, hd0, ⟨g1, t1, cs1, f1, p1, q1, hg1, ht1, hv1, hd1, _⟩, _⟩, _⟩, _, _⟩ := h
  obtain rfl := Option.some.inj (gT.symm.trans hg1)
  obtain rfl := Option.some.inj (gTy.symm.trans ht1)
  rw [tab_is] at hd1
  show Lib.TabIs _ _ _ _ _
  unfold Lib.TabIs
  rw [hv1, ← Lib.cells_of_tab Tryd.underlying162 Tryd.underlying5 (by kernel_rfl) (by kernel_rfl) hd1]
end Go.Proofs.YtldejfkplnejjaaDoor.Open
