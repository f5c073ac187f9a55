/- vec: sums and differences. -/
import Derived.Test.YtoncolpkpgbfiaaDoorV0
set_option linter.unusedSimpArgs false
set_option linter.unusedVariables false
set_option maxRecDepth 100000
set_option maxHeartbeats 4000000
namespace Go.Proofs.YtoncolpkpgbfiaaDoor

def addL (l r : List Int) : List Int := (List.range l.length).map fun i => bndI (l.getD i 0 + (r.getD i 0))
def addO (l r : List Int) : Bool := (List.range l.length).any fun i => ovrB (l.getD i 0 + (r.getD i 0))
def subL (l r : List Int) : List Int := (List.range l.length).map fun i => bndI (l.getD i 0 + -(r.getD i 0))
def subO (l r : List Int) : Bool := (List.range l.length).any fun i => ovrB (l.getD i 0 + -(r.getD i 0))
end Go.Proofs.YtoncolpkpgbfiaaDoor
