/- Where the plain side begins: every function that was printed. (No law of this seat compares results field by field.) -/
import Derived.Test.YtlenacakmmikiaaDoorPL0
import Derived.Test.YtlenacakmmikiaaDoorF2
