/- Rows of answers in short words; no condition. -/
namespace Go.Proofs.Ytmnojegajblagac.Lib
def trL : Bool → List Nat → List Bool
  | _, [] => []
  | b, n :: l => List.replicate n b ++ trL (!b) l
/-- So many true, so many false, so many true .. -/
def tr (l : List Nat) : Array Bool := ⟨trL true l⟩
end Go.Proofs.Ytmnojegajblagac.Lib
