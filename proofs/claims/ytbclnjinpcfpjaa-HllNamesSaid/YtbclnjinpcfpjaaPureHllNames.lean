import Derived.Test.YtbclnjinpcfpjaaH13
namespace Go.Proofs.Ytbclnjinpcfpjaa.Pure
open Go.RowKit Go.Proofs.Ytbclnjinpcfpjaa.H Go.Proofs.YtbclnjinpcfpjaaW.PrintWords Go.Proofs.YtbclnjinpcfpjaaW.PrintLast

/-- YOURS: ∃ k, tallymanlaw14_HllNames.f k  = some true
What it reaches (each with k first where it has rounds; `.mono`: more rounds tell the same; `.l0`, ..: its loops, with `.mono_l`): hll_New.f, hll_Check.f, api_Reg_63.f, hll_compare.f, api_Reg_int.f, api_Reg_103.f, api_Reg_108.f, api_Reg_107.f, api_Reg_104.f, api_Reg_91.f, hll_put.f, xhash_clip.f, xhash_High.f, bits_Len64.f, bits_LeadingZeros64.f, hll_split.f, hll_AddAll.f, hll_Split.f, tallymankit_Hll.f, tallymanlaw14_lives.f, hll_Get.f, hll_Zeros.f, hll_Merge_1.f, hll_Merge_2.f, api_Reg_69.f, hll_Merge.f, bits_Len32.f, bits_Len.f, hll_Fold.f, tallymanlaw14_HllNames.f -/
theorem HllNames : tallymanlaw14_HllNames.Pure := ⟨100, by decide +kernel⟩
end Go.Proofs.Ytbclnjinpcfpjaa.Pure
