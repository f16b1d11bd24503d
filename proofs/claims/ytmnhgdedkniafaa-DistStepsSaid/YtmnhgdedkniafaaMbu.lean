/- Ways: the law, and how arcs that come in read. -/
import Derived.Test.YtmnhgdedkniafaaMbp
import Derived.Test.YtmnhgdedkniafaaMbs
import Derived.Test.YtmnhgdedkniafaaMbt

