/- Left empty: the seat lacks the function. -/
import Derived.Test.YtebjeapnglmokaaProg

/- Left empty: the seat lacks the function. -/
