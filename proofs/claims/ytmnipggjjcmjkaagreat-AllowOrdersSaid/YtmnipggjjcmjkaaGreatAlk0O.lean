/-
  Sums of k of a list of numbers, as often as they come; what the order of the list, and the rest of the list, make of them; the doubled ranks. No program is in sight here.
-/

set_option linter.unusedSimpArgs false
set_option linter.unusedVariables false
namespace Go.Proofs.YtmnipggjjcmjkaaGreat

/-- The sums of k of the numbers. -/
def sm : List Int → Nat → List Int
  | [], 0 => [0]
  | [], _ + 1 => []
  | _ :: _, 0 => [0]
  | r :: l, k + 1 => sm l (k + 1) ++ (sm l k).map (· + r)
end Go.Proofs.YtmnipggjjcmjkaaGreat
