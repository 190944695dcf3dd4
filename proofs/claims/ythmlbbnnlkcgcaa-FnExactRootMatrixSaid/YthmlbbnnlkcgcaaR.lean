/- All short forms. -/
import Derived.Test.YthmlbbnnlkcgcaaR0
import Derived.Test.YthmlbbnnlkcgcaaVK
import Derived.Test.YthmlbbnnlkcgcaaVL
