/- For every input the law NumsFixed of the package weighlocklaw01 returns true (the plain statement over numbers and lists that the printed walk asks for); no conditions. -/
import Derived.Test.YtbpdgpaoibcilaaPureNums4
namespace Go.Proofs.Ytbpdgpaoibcilaa.Pure
theorem NumsFixed : Go.Proofs.Ytbpdgpaoibcilaa.PNums.weighlocklaw01_NumsFixed.Pure := Go.Proofs.Ytbpdgpaoibcilaa.PureNums.NumsFixed
end Go.Proofs.Ytbpdgpaoibcilaa.Pure
