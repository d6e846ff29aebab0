/- The law FnSort, and the bytes that came in. -/
import Derived.Test.YtgkniabpdgaoiaaDoorE1
import Derived.Test.YtgkniabpdgaoiaaDoorG3
