/- For every input the law NumsChains of the package weighlocklaw01 returns true (the plain statement over numbers and lists that the printed walk asks for); no conditions. -/
import Derived.Test.YtbpdgpaoibcilaaPureNums1
namespace Go.Proofs.Ytbpdgpaoibcilaa.Pure
theorem NumsChains : Go.Proofs.Ytbpdgpaoibcilaa.PNums.weighlocklaw01_NumsChains.Pure := Go.Proofs.Ytbpdgpaoibcilaa.PureNums.NumsChains
end Go.Proofs.Ytbpdgpaoibcilaa.Pure
