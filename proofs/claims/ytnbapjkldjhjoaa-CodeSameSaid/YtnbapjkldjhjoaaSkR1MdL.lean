/-
  Walks of functions, and of the laws over them.
-/
import Derived.Test.YtnbapjkldjhjoaaSkMdQ
import Derived.Test.YtnbapjkldjhjoaaSkR1MdC
