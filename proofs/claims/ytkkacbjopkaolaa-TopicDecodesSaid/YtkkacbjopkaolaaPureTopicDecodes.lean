import Derived.Test.YtkkacbjopkaolaaPureTopic3
namespace Go.Proofs.Ytkkacbjopkaolaa.Pure
open Go.RowKit Go.Proofs.Ytkkacbjopkaolaa.PTopicB
theorem TopicDecodes : weighlocklaw22_TopicDecodes.Pure := PureTopic3.topicDecodes
end Go.Proofs.Ytkkacbjopkaolaa.Pure
