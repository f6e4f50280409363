/- What the functions of the program do, for every input; plain facts. No condition, no statement of its own. Part 7. -/
import Derived.Test.YtpebpfiglfmegaaGreatZ6
set_option maxRecDepth 1000000
set_option maxHeartbeats 8000000
set_option linter.unusedVariables false
set_option linter.unusedSimpArgs false
set_option linter.unnecessarySimpa false
set_option linter.defProp false
namespace Go.Proofs.YtpebpfiglfmegaaGreat
open Go Tryz List IntKind Region
end Go.Proofs.YtpebpfiglfmegaaGreat
