/- All of the abstract machine, for the texts that are printed. -/
import Derived.Test.YtgiiilhdmfddcaaSimV
set_option linter.unusedVariables false
set_option linter.unusedSimpArgs false
