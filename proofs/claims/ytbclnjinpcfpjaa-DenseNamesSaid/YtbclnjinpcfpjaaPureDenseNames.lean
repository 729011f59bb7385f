import Derived.Test.YtbclnjinpcfpjaaH12
namespace Go.Proofs.Ytbclnjinpcfpjaa.Pure
open Go.RowKit Go.Proofs.Ytbclnjinpcfpjaa.H Go.Proofs.YtbclnjinpcfpjaaW.PrintWords Go.Proofs.YtbclnjinpcfpjaaW.PrintLast

/-- YOURS: ∃ k, tallymanlaw15_DenseNames.f k  = some true
What it reaches (each with k first where it has rounds; `.mono`: more rounds tell the same; `.l0`, ..: its loops, with `.mono_l`): bits_Len64.f, dense_Log2.f, hll_Check.f, slices_Clone_byte_byte.f, octet_Number.f, dense_Sparse.f, dense_Pack.f, dense_Dense.f, dense_Bytes.f, tallymanlaw15_lives.f, bits_Mul64.f, bits_Add64.f, bits_Sub64.f, dense_by.f, dense_Estimate.f, dense_Unpack.f, octet_New.f, octet_Reader_made.f, octet_Reader_ready.f, octet_Reader_fail.f, octet_Reader_number.f, octet_Reader_Number.f, octet_Reader_Upto.f, octet_Reader_Fixed.f, octet_Reader_Err.f, octet_Reader_Left.f, octet_Reader_End.f, dense_Read.f, tallymankit_Ints.f, tallymanlaw15_DenseNames.f -/
theorem DenseNames : tallymanlaw15_DenseNames.Pure := ⟨700, by decide +kernel⟩
end Go.Proofs.Ytbclnjinpcfpjaa.Pure
