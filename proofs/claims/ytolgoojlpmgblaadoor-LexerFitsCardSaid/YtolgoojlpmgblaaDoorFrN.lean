/- What the condition on LexerFits' nine listed variables gives its walk. -/
import Derived.Test.YtolgoojlpmgblaaDoorFr
import Derived.Test.YtolgoojlpmgblaaDoorBL
import Derived.LaidLaws
namespace Go.Proofs.YtolgoojlpmgblaaDoor
open Go.ChangeShapes Go.WideShapes Go.ChangeAt Go.RowKit

theorem tRange : (Tryd.prog.globals[4]?).map (·.type) = some 78 := by kernel_rfl

theorem range_of_reads {w : World} (h : Lib.VarReads Tryd.prog w "strconv.ErrRange" Rows.laid_strconv_ErrRange) : RangeAt w := by
  obtain ⟨g, t, cs, fuel, p, hg, ht, hv, hd⟩ := h
  obtain rfl := Option.some.inj (gRange.symm.trans hg)
  obtain rfl := Option.some.inj (tRange.symm.trans ht)
  obtain ⟨f, u, v, hcs, _, _⟩ := iface_of_trod Tryd.underlying78 hd
  refine ⟨u, v, ?_⟩
  rw [hv, show cs = #[.iface u v] from Array.toList_inj.1 hcs]

set_option maxRecDepth 100000
def laid9 : List (String × DataW Unit) := [("math/bits.deBruijn32tab", Rows.laid_math_bits_deBruijn32tab), ("math/bits.deBruijn64tab", Rows.laid_math_bits_deBruijn64tab), ("internal/strconv.uint64pow10", Rows.laid_internal_strconv_uint64pow10), ("unicode/utf8.acceptRanges", Rows.laid_unicode_utf8_acceptRanges), ("strconv.ErrRange", Rows.laid_strconv_ErrRange), ("strconv.ErrSyntax", Rows.laid_strconv_ErrSyntax), ("schemalens/lexer.keywords", Rows.laid_schemalens_lexer_keywords), ("schemalens/lexer.symbols", Rows.laid_schemalens_lexer_symbols), ("unicode/utf8.first", Rows.laid_unicode_utf8_first)]
theorem tabs_of_laid9 {w : World} (h : laidMetH Tryd.prog laid9 w) : Tabs w ∧ RangeAt w := by
  rw [MakeChecks.laidMetH_plain _ _ _ (by kernel_rfl)] at h
  exact ⟨tabs_of_reads (Lib.laidMet.reads h (.tail _ (.tail _ (.tail _ (.head _))))) (Lib.laidMet.reads h (.tail _ (.tail _ (.tail _ (.tail _ (.tail _ (.tail _ (.head _)))))))) (Lib.laidMet.reads h (.tail _ (.tail _ (.tail _ (.tail _ (.tail _ (.tail _ (.tail _ (.head _))))))))) (Lib.laidMet.reads h (.tail _ (.tail _ (.tail _ (.tail _ (.tail _ (.tail _ (.tail _ (.tail _ (.head _)))))))))),
    range_of_reads (Lib.laidMet.reads h (.tail _ (.tail _ (.tail _ (.tail _ (.head _))))))⟩
end Go.Proofs.YtolgoojlpmgblaaDoor
