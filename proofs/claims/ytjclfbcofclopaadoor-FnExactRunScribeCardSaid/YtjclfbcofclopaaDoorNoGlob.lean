/- Of a row whose listed variables are not read on the way: no condition on the walk. -/
import Derived.Test.YtjclfbcofclopaaDoorRows
import Derived.JoinedTies
namespace Go.Proofs.YtjclfbcofclopaaDoor.Glb
theorem none_of_laid {P : Program} {l : List (String × DataW Unit)} {W : World} (_h : laidMetH P l W) : True := trivial
end Go.Proofs.YtjclfbcofclopaaDoor.Glb
