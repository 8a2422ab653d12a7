/- For every input the law NumsFolds of the package weighlocklaw01 returns true (the plain statement over numbers and lists that the printed walk asks for); no conditions. -/
import Derived.Test.YtbpdgpaoibcilaaPureNums2
namespace Go.Proofs.Ytbpdgpaoibcilaa.Pure
theorem NumsFolds : Go.Proofs.Ytbpdgpaoibcilaa.PNums.weighlocklaw01_NumsFolds.Pure := Go.Proofs.Ytbpdgpaoibcilaa.PureNums.NumsFolds
end Go.Proofs.Ytbpdgpaoibcilaa.Pure
