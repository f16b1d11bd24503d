/- Edges of a history: all that the law DsgTells needs. -/
import Derived.Test.YtaicemjckagcaaaGreatMay
import Derived.Test.YtaicemjckagcaaaGreatMbz

