/- Edges of a history: all that the law DsgReasons needs. -/
import Derived.Test.YtaicemjckagcaaaMaz
import Derived.Test.YtaicemjckagcaaaMca

