import Derived.Test.YtefnndodcpimiaaH5
namespace Go.Proofs.Ytefnndodcpimiaa.Pure
open Go.RowKit Go.Proofs.Ytefnndodcpimiaa.H Go.Proofs.YtefnndodcpimiaaW.PrintWords Go.Proofs.YtefnndodcpimiaaW.PrintLast

/-- YOURS: ∃ k, tallymanlaw10_TableNames.f k  = some true
What it reaches (each with k first where it has rounds; `.mono`: more rounds tell the same; `.l0`, ..: its loops, with `.mono_l`): table_isPage.f, table_Check.f, table_Fresh.f, slices_Index_int_int.f, table_Find.f, slices_Clone_int_int.f, table_put.f, table_Set.f, table_Get.f, table_Clear.f, tallymankit_Ints.f, slices_Clone_byte_byte.f, octet_Number.f, table_Bytes.f, tallymanlaw10_lives.f, table_Pages.f, table_Count.f, octet_New.f, octet_Reader_made.f, octet_Reader_ready.f, octet_Reader_fail.f, octet_Reader_number.f, octet_Reader_Number.f, octet_Reader_Upto.f, octet_Reader_Err.f, octet_Reader_Left.f, octet_Reader_End.f, table_Read.f, tallymanlaw10_TableNames.f -/
theorem TableNames : tallymanlaw10_TableNames.Pure := ⟨80, by decide +kernel⟩
end Go.Proofs.Ytefnndodcpimiaa.Pure
