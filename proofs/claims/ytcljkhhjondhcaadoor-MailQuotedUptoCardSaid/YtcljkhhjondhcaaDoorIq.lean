/- Functions of the program as plain functions, and that each call returns what they say, wherever they answer: written by a program of this session over the kit's printer; conditions: those in each statement. -/
import Derived.Test.YtcljkhhjondhcaaDoorIq0
import Derived.Test.YtcljkhhjondhcaaDoorIq1
import Derived.Test.YtcljkhhjondhcaaDoorIq2
import Derived.Test.YtcljkhhjondhcaaDoorIq3
import Derived.Test.YtcljkhhjondhcaaDoorIq4
import Derived.Test.YtcljkhhjondhcaaDoorIq5
namespace Go.Proofs.YtcljkhhjondhcaaDoor.Iq
open Go.RowKit Go.Proofs.YtcljkhhjondhcaaDoorW.PrintWords Go.Proofs.YtcljkhhjondhcaaDoorW.PrintLast Go.Proofs.YtcljkhhjondhcaaDoorW.PrintMore Go.Proofs.YtcljkhhjondhcaaDoor.Ext
attribute [local go_sem] max2_int min2_int max_two min_two max_three min_three max_four min_four   -- for this text's walks alone
set_option linter.unusedVariables false
set_option linter.unusedSimpArgs false

end Go.Proofs.YtcljkhhjondhcaaDoor.Iq
