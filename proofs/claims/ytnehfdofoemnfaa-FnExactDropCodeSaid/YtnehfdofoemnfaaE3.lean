/- The laws on ThreadCode and DropCode: what the shells lean on. -/
import Derived.Test.YtnehfdofoemnfaaE1
import Derived.Test.YtnehfdofoemnfaaP16
