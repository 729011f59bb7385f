import Derived.Test.YtichljgjfioanaaH11
namespace Go.Proofs.Ytichljgjfioanaa.Pure
open Go.RowKit Go.Proofs.Ytichljgjfioanaa.H Go.Proofs.YtichljgjfioanaaW.PrintWords Go.Proofs.YtichljgjfioanaaW.PrintLast

/-- YOURS: ∃ k, tallymanlaw19_DirNames.f k  = some true
What it reaches (each with k first where it has rounds; `.mono`: more rounds tell the same; `.l0`, ..: its loops, with `.mono_l`): dir_may.f, dir_New.f, slices_Index_int_int.f, dir_deep.f, dir_Check.f, slices_Contains_int_int.f, slices_Clone_int_int.f, bits_Mul32.f, bits_Mul64.f, bits_Mul.f, slices_Repeat_int_int.f, dir_put.f, dir_Split.f, dir_twin.f, slices_Equal_int_int.f, dir_Join.f, slices_Clone_byte_byte.f, slices_Grow_byte_byte.f, slices_Concat_byte_byte.f, octet_Word.f, dir_Bytes.f, octet_New.f, octet_Reader_made.f, octet_Reader_Left.f, octet_Reader_ready.f, octet_Reader_fail.f, octet_Reader_Fixed.f, octet_Reader_Word.f, dir_Read.f, xhash_clip.f, xhash_Low.f, dir_Find.f, dir_Deep.f, dir_Twin.f, tallymankit_Ints.f, tallymanlaw19_lives.f, tallymanlaw19_DirNames.f -/
theorem DirNames : tallymanlaw19_DirNames.Pure := ⟨60, by decide +kernel⟩
end Go.Proofs.Ytichljgjfioanaa.Pure
