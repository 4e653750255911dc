/- The statement MatTurns at every input. -/
import Derived.Test.YtdhhkkhimcpaoaaWalkMatTurns
namespace Go.Proofs.Ytdhhkkhimcpaoaa.Mat
open Go Go.RowKit
open Classical in
theorem turns_law {w : World} (A0 : Option Addr) (c0 : Nat) (a : List (List Int)) (aR : RowsC w A0 a) (aB : AllBytes a) (aL : a.length ≤ c0) (_ : a.length ≤ 9223372036854775807)
    (A1 : Option Addr) (c1 : Nat) (b : List (List Int)) (bR : RowsC w A1 b) (bB : AllBytes b) (bL : b.length ≤ c1) (_ : b.length ≤ 9223372036854775807)
    (A2 : Option Addr) (c2 : Nat) (c : List (List Int)) (cR : RowsC w A2 c) (cB : AllBytes c) (cL : c.length ≤ c2) (_ : c.length ≤ 9223372036854775807) :
    Calls Try.prog 3 #[.slice A0 a.length c0, .slice A1 b.length c1, .slice A2 c.length c2] w fun e w' => e = .returned (.bool true) ∧ Below w.heap.size w w' := by
  by_cases ha : SmallP a
  · by_cases hb : SmallP b
    · by_cases hc : SmallP c
      · by_cases h1 : (a.getD 0 []).length = b.length
        · by_cases h2 : (b.getD 0 []).length = c.length
          · exact turns_f A0 A1 A2 c0 c1 c2 a b c w aR bR cR aL bL cL aB bB cB ha hb hc h1 h2
          · exact turns_e A0 A1 A2 c0 c1 c2 a b c w aR bR cR aL bL cL ha hb hc h1 h2
        · exact turns_d A0 A1 A2 c0 c1 c2 a b c w aR bR cR aL bL cL ha hb hc h1
      · exact turns_c A0 A1 A2 c0 c1 c2 a b c w aR bR cR aL bL cL ha hb hc
    · exact turns_b A0 A1 A2 c0 c1 c2 a b c w aR bR cR aL bL cL ha hb
  · exact turns_a A0 A1 A2 c0 c1 c2 a b c w aR bR cR aL bL cL ha
end Go.Proofs.Ytdhhkkhimcpaoaa.Mat
