/- Functions of the program as plain functions, and that each call returns what they say, wherever they answer: written by a program of this session over the kit's printer; conditions: those in each statement. -/
import Derived.Test.YtijajimooldhiaaDoorKr0
import Derived.Test.YtijajimooldhiaaDoorKr1
import Derived.Test.YtijajimooldhiaaDoorKr2
import Derived.Test.YtijajimooldhiaaDoorKr3
import Derived.Test.YtijajimooldhiaaDoorKr4
import Derived.Test.YtijajimooldhiaaDoorKr5
import Derived.Test.YtijajimooldhiaaDoorKr6
import Derived.Test.YtijajimooldhiaaDoorKr7
import Derived.Test.YtijajimooldhiaaDoorKr8
import Derived.Test.YtijajimooldhiaaDoorKr9
import Derived.Test.YtijajimooldhiaaDoorKr10
import Derived.Test.YtijajimooldhiaaDoorKr11
import Derived.Test.YtijajimooldhiaaDoorKr12
import Derived.Test.YtijajimooldhiaaDoorKr13
import Derived.Test.YtijajimooldhiaaDoorKr14
namespace Go.Proofs.YtijajimooldhiaaDoor.Kr
open Go.RowKit Go.Proofs.YtijajimooldhiaaDoorW.PrintWords Go.Proofs.YtijajimooldhiaaDoorW.PrintLast Go.Proofs.YtijajimooldhiaaDoorW.PrintMore Go.Proofs.YtijajimooldhiaaDoor.Ext Go.Proofs.YtijajimooldhiaaDoor.ExtV
attribute [local go_sem] max2_int min2_int max_two min_two max_three min_three max_four min_four   -- for this text's walks alone
set_option linter.unusedVariables false
set_option linter.unusedSimpArgs false

end Go.Proofs.YtijajimooldhiaaDoor.Kr
