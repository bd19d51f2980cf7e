/- Functions of the program as plain functions, and that each call returns what they say, wherever they answer: written by a program of this session over the kit's printer; conditions: those in each statement. -/
import Derived.Test.YtijajimooldhiaaDoorKv0
import Derived.Test.YtijajimooldhiaaDoorKv1
import Derived.Test.YtijajimooldhiaaDoorKv2
import Derived.Test.YtijajimooldhiaaDoorKv3
import Derived.Test.YtijajimooldhiaaDoorKv4
import Derived.Test.YtijajimooldhiaaDoorKv5
import Derived.Test.YtijajimooldhiaaDoorKv6
import Derived.Test.YtijajimooldhiaaDoorKv7
import Derived.Test.YtijajimooldhiaaDoorKv8
import Derived.Test.YtijajimooldhiaaDoorKv9
import Derived.Test.YtijajimooldhiaaDoorKv10
namespace Go.Proofs.YtijajimooldhiaaDoor.Kv
open Go.RowKit Go.Proofs.YtijajimooldhiaaDoorW.PrintWords Go.Proofs.YtijajimooldhiaaDoorW.PrintLast Go.Proofs.YtijajimooldhiaaDoorW.PrintMore Go.Proofs.YtijajimooldhiaaDoor.Ext
attribute [local go_sem] max2_int min2_int max_two min_two max_three min_three max_four min_four   -- for this text's walks alone
set_option linter.unusedVariables false
set_option linter.unusedSimpArgs false

end Go.Proofs.YtijajimooldhiaaDoor.Kv
