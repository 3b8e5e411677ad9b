/- FrameNames: the evaluation comes to true. -/
import Derived.Test.YtefmihgjheokeaaFns
namespace Go.Proofs.Ytefmihgjheokeaa
open Go.Sim
theorem law_FrameNames : T_law04_FrameNames = some (.bool true, []) := rfl
end Go.Proofs.Ytefmihgjheokeaa
