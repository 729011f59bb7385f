import Derived.Test.YtpagondojdlknaaH10
namespace Go.Proofs.Ytpagondojdlknaa.Pure
open Go.RowKit Go.Proofs.Ytpagondojdlknaa.H Go.Proofs.YtpagondojdlknaaW.PrintWords Go.Proofs.YtpagondojdlknaaW.PrintLast

/-- YOURS: ∃ k, tallymanlaw17_SetopsNames.f k  = some true
What it reaches (each with k first where it has rounds; `.mono`: more rounds tell the same; `.l0`, ..: its loops, with `.mono_l`): setops_Check.f, cmp_isNaN_uint64.f, cmp_Less_uint64.f, slices_isNaN_uint64.f, slices_BinarySearch_uint64_uint64.f, setops_below.f, setops_limit.f, setops_pairs.f, setops_made.f, setops_Either.f, setops_Both.f, setops_Less.f, bits_Len64.f, bits_LeadingZeros64.f, bits_Div64.f, setops_Estimate.f, setops_Like.f, tallymanlaw17_view.f, tallymankit_Same.f, tallymankit_View.f, tallymanlaw17_lives.f, setops_One.f, theta_Check.f, slices_Clone_uint64_uint64.f, setops_Of.f, setops_Cut.f, tallymanlaw17_SetopsNames.f -/
theorem SetopsNames : tallymanlaw17_SetopsNames.Pure := ⟨60, by decide +kernel⟩
end Go.Proofs.Ytpagondojdlknaa.Pure
