/- Left empty: the seat lacks the function. -/
import Derived.Test.YtaicemjckagcaaaGreatProg

