/- Where the plain side begins: every function that was printed. (No law of this seat compares results field by field.) -/
import Derived.Test.YtldpjfacoaplhaaDoorPL0
import Derived.Test.YtldpjfacoaplhaaDoorF2
