/- For every input the law NumsTexts of the package weighlocklaw01 returns true (the plain statement over numbers and lists that the printed walk asks for); no conditions. -/
import Derived.Test.YtbpdgpaoibcilaaPureNums4
namespace Go.Proofs.Ytbpdgpaoibcilaa.Pure
theorem NumsTexts : Go.Proofs.Ytbpdgpaoibcilaa.PNums.weighlocklaw01_NumsTexts.Pure := Go.Proofs.Ytbpdgpaoibcilaa.PureNums.NumsTexts
end Go.Proofs.Ytbpdgpaoibcilaa.Pure
