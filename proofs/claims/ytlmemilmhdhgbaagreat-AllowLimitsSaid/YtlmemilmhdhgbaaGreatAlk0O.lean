/-
  Sums of k of a list of numbers, as often as they come; what the order of the list, and the rest of the list, make of them; the doubled ranks. No program is in sight here.
-/

set_option linter.unusedSimpArgs false
set_option linter.unusedVariables false
namespace Go.Proofs.YtlmemilmhdhgbaaGreat
def sm : List Int → Nat → List Int
  | [], 0 => [0]
  | [], _ + 1 => []
  | _ :: _, 0 => [0]
  | r :: l, k + 1 => sm l (k + 1) ++ (sm l k).map (· + r)
def cnt (l : List Int) (k : Nat) (s : Int) : Nat := (sm l k).count s
end Go.Proofs.YtlmemilmhdhgbaaGreat
