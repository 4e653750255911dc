/- The word of the printed rows on a slice of whole numbers, under the name by which the row calls it. -/
import Derived.Test.YtgadbdhmdeiclaaWSized
namespace Go.Proofs.Ytgadbdhmdeiclaa.PrintWords
theorem sized_ints : type_of% @Go.Proofs.YtgadbdhmdeiclaaW.PrintWords.sized_ints := @Go.Proofs.YtgadbdhmdeiclaaW.PrintWords.sized_ints
end Go.Proofs.Ytgadbdhmdeiclaa.PrintWords
