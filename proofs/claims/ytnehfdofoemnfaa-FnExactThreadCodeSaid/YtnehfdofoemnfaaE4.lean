/- The law on ThreadCode: what the shell leans on. -/
import Derived.Test.YtnehfdofoemnfaaE1
import Derived.Test.YtnehfdofoemnfaaP15
