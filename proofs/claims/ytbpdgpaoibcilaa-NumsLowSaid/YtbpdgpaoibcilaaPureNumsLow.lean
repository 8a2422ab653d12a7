/- For every input the law NumsLow of the package weighlocklaw01 returns true (the plain statement over numbers and lists that the printed walk asks for); no conditions. -/
import Derived.Test.YtbpdgpaoibcilaaPureNums3
namespace Go.Proofs.Ytbpdgpaoibcilaa.Pure
theorem NumsLow : Go.Proofs.Ytbpdgpaoibcilaa.PNums.weighlocklaw01_NumsLow.Pure := Go.Proofs.Ytbpdgpaoibcilaa.PureNums.NumsLow
end Go.Proofs.Ytbpdgpaoibcilaa.Pure
