/- For every input the law NumsUnchains of the package weighlocklaw01 returns true (the plain statement over numbers and lists that the printed walk asks for); no conditions. -/
import Derived.Test.YtbpdgpaoibcilaaPureNums1
namespace Go.Proofs.Ytbpdgpaoibcilaa.Pure
theorem NumsUnchains : Go.Proofs.Ytbpdgpaoibcilaa.PNums.weighlocklaw01_NumsUnchains.Pure := Go.Proofs.Ytbpdgpaoibcilaa.PureNums.NumsUnchains
end Go.Proofs.Ytbpdgpaoibcilaa.Pure
