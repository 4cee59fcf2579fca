/- What the functions of this part answer: their contracts, printed by a program of this session (wip/gen/hybrid.py) out of the translation. No conditions. -/
import Derived.Test.YtpegaabcelkmmaaDoorPHx0
import Derived.Test.YtpegaabcelkmmaaDoorPHx3
import Derived.Test.YtpegaabcelkmmaaDoorPHx5
import Derived.Test.YtpegaabcelkmmaaDoorMCiv
import Derived.Test.YtpegaabcelkmmaaDoorMMon
noncomputable section
namespace Go.Proofs.YtpegaabcelkmmaaDoor.PH

open Go.RowKit Go.Proofs.YtpegaabcelkmmaaDoorW.PrintWords Go.Proofs.YtpegaabcelkmmaaDoorW.PrintLast Go.Proofs.YtpegaabcelkmmaaDoorW.PrintMore
attribute [local go_sem] max2_int min2_int max_two min_two max_three min_three max_four min_four   -- for this text's walks alone
set_option linter.unusedVariables false
set_option linter.unusedSimpArgs false

-- HYB
/-! ### quittancelaw11_ProrateTerm: function 8 -/
abbrev qa0 : Array Bool := #[false, false, false, false, false, false, false, false, false, false, false, false, false, false, false, false, false, false, false, false, false, false, false, false, false, false, false, false, false, false, false, false, false, false, false, false, false, false, false, false, false, false, false, false, false, false, false, false, false, false, false, false, false, false, false, false, false, false, false, false]
abbrev qa1 : Array Bool := #[true, false, false, false, false, false, false, false, false, false, false, false, false, false, false, false, false, false, false, false, false, false, false, false, false, false, false, false, false, false, false, false, false, false, false, false, false, false, false, false, false, false, false, false, false, false, false, false, false, false, false, false, false, false, false, false, false, false, false, false]
abbrev qa2 : Array Bool := #[true, true, false, false, false, false, false, false, false, false, false, false, false, false, false, false, false, false, false, false, false, false, false, false, false, false, false, false, false, false, false, false, false, false, false, false, false, false, false, false, false, false, false, false, false, false, false, false, false, false, false, false, false, false, false, false, false, false, false, false]
abbrev qa3 : Array Bool := #[true, true, true, false, false, false, false, false, false, false, false, false, false, false, false, false, false, false, false, false, false, false, false, false, false, false, false, false, false, false, false, false, false, false, false, false, false, false, false, false, false, false, false, false, false, false, false, false, false, false, false, false, false, false, false, false, false, false, false, false]
abbrev qa4 : Array Bool := #[true, true, true, true, false, false, false, false, false, false, false, false, false, false, false, false, false, false, false, false, false, false, false, false, false, false, false, false, false, false, false, false, false, false, false, false, false, false, false, false, false, false, false, false, false, false, false, false, false, false, false, false, false, false, false, false, false, false, false, false]
abbrev qa5 : Array Bool := #[true, true, true, true, true, false, false, false, false, false, false, false, false, false, false, false, false, false, false, false, false, false, false, false, false, false, false, false, false, false, false, false, false, false, false, false, false, false, false, false, false, false, false, false, false, false, false, false, false, false, false, false, false, false, false, false, false, false, false, false]
abbrev qa6 : Array Bool := #[true, true, true, true, true, true, false, false, false, false, false, false, false, false, false, false, false, false, false, false, false, false, false, false, false, false, false, false, false, false, false, false, false, false, false, false, false, false, false, false, false, false, false, false, false, false, false, false, false, false, false, false, false, false, false, false, false, false, false, false]
abbrev qa7 : Array Bool := #[true, true, true, true, true, true, true, false, false, false, false, false, false, false, false, false, false, false, false, false, false, false, false, false, false, false, false, false, false, false, false, false, false, false, false, false, false, false, false, false, false, false, false, false, false, false, false, false, false, false, false, false, false, false, false, false, false, false, false, false]
abbrev qa8 : Array Bool := #[true, true, true, true, true, true, true, true, false, false, false, false, false, false, false, false, false, false, false, false, false, false, false, false, false, false, false, false, false, false, false, false, false, false, false, false, false, false, false, false, false, false, false, false, false, false, false, false, false, false, false, false, false, false, false, false, false, false, false, false]
abbrev qa9 : Array Bool := #[true, true, true, true, true, true, true, true, true, false, false, false, false, false, false, false, false, false, false, false, false, false, false, false, false, false, false, false, false, false, false, false, false, false, false, false, false, false, false, false, false, false, false, false, false, false, false, false, false, false, false, false, false, false, false, false, false, false, false, false]
abbrev qa10 : Array Bool := #[true, true, true, true, true, true, true, true, true, true, false, false, false, false, false, false, false, false, false, false, false, false, false, false, false, false, false, false, false, false, false, false, false, false, false, false, false, false, false, false, false, false, false, false, false, false, false, false, false, false, false, false, false, false, false, false, false, false, false, false]
abbrev qa11 : Array Bool := #[true, true, true, true, true, true, true, true, true, true, true, false, false, false, false, false, false, false, false, false, false, false, false, false, false, false, false, false, false, false, false, false, false, false, false, false, false, false, false, false, false, false, false, false, false, false, false, false, false, false, false, false, false, false, false, false, false, false, false, false]
abbrev qa12 : Array Bool := #[true, true, true, true, true, true, true, true, true, true, true, true, false, false, false, false, false, false, false, false, false, false, false, false, false, false, false, false, false, false, false, false, false, false, false, false, false, false, false, false, false, false, false, false, false, false, false, false, false, false, false, false, false, false, false, false, false, false, false, false]
abbrev qa13 : Array Bool := #[true, true, true, true, true, true, true, true, true, true, true, true, true, false, false, false, false, false, false, false, false, false, false, false, false, false, false, false, false, false, false, false, false, false, false, false, false, false, false, false, false, false, false, false, false, false, false, false, false, false, false, false, false, false, false, false, false, false, false, false]
abbrev qa14 : Array Bool := #[true, true, true, true, true, true, true, true, true, true, true, true, true, true, false, false, false, false, false, false, false, false, false, false, false, false, false, false, false, false, false, false, false, false, false, false, false, false, false, false, false, false, false, false, false, false, false, false, false, false, false, false, false, false, false, false, false, false, false, false]
abbrev qa15 : Array Bool := #[true, true, true, true, true, true, true, true, true, true, true, true, true, true, true, false, false, false, false, false, false, false, false, false, false, false, false, false, false, false, false, false, false, false, false, false, false, false, false, false, false, false, false, false, false, false, false, false, false, false, false, false, false, false, false, false, false, false, false, false]
abbrev qa16 : Array Bool := #[true, true, true, true, true, true, true, true, true, true, true, true, true, true, true, true, false, false, false, false, false, false, false, false, false, false, false, false, false, false, false, false, false, false, false, false, false, false, false, false, false, false, false, false, false, false, false, false, false, false, false, false, false, false, false, false, false, false, false, false]
abbrev qa17 : Array Bool := #[true, true, true, true, true, true, true, true, true, true, true, true, true, true, true, true, true, false, false, false, false, false, false, false, false, false, false, false, false, false, false, false, false, false, false, false, false, false, false, false, false, false, false, false, false, false, false, false, false, false, false, false, false, false, false, false, false, false, false, false]
abbrev qa18 : Array Bool := #[true, true, true, true, true, true, true, true, true, true, true, true, true, true, true, true, true, true, false, false, false, false, false, false, false, false, false, false, false, false, false, false, false, false, false, false, false, false, false, false, false, false, false, false, false, false, false, false, false, false, false, false, false, false, false, false, false, false, false, false]
abbrev qa19 : Array Bool := #[true, true, true, true, true, true, true, true, true, true, true, true, true, true, true, true, true, true, true, false, false, false, false, false, false, false, false, false, false, false, false, false, false, false, false, false, false, false, false, false, false, false, false, false, false, false, false, false, false, false, false, false, false, false, false, false, false, false, false, false]
abbrev qa20 : Array Bool := #[true, true, true, true, true, true, true, true, true, true, true, true, true, true, true, true, true, true, true, true, false, false, false, false, false, false, false, false, false, false, false, false, false, false, false, false, false, false, false, false, false, false, false, false, false, false, false, false, false, false, false, false, false, false, false, false, false, false, false, false]
abbrev qa21 : Array Bool := #[true, true, true, true, true, true, true, true, true, true, true, true, true, true, true, true, true, true, true, true, true, false, false, false, false, false, false, false, false, false, false, false, false, false, false, false, false, false, false, false, false, false, false, false, false, false, false, false, false, false, false, false, false, false, false, false, false, false, false, false]
abbrev qa22 : Array Bool := #[true, true, true, true, true, true, true, true, true, true, true, true, true, true, true, true, true, true, true, true, true, true, false, false, false, false, false, false, false, false, false, false, false, false, false, false, false, false, false, false, false, false, false, false, false, false, false, false, false, false, false, false, false, false, false, false, false, false, false, false]
abbrev qa23 : Array Bool := #[true, true, true, true, true, true, true, true, true, true, true, true, true, true, true, true, true, true, true, true, true, true, true, false, false, false, false, false, false, false, false, false, false, false, false, false, false, false, false, false, false, false, false, false, false, false, false, false, false, false, false, false, false, false, false, false, false, false, false, false]
abbrev qa24 : Array Bool := #[true, true, true, true, true, true, true, true, true, true, true, true, true, true, true, true, true, true, true, true, true, true, true, true, false, false, false, false, false, false, false, false, false, false, false, false, false, false, false, false, false, false, false, false, false, false, false, false, false, false, false, false, false, false, false, false, false, false, false, false]
abbrev qa25 : Array Bool := #[true, true, true, true, true, true, true, true, true, true, true, true, true, true, true, true, true, true, true, true, true, true, true, true, true, false, false, false, false, false, false, false, false, false, false, false, false, false, false, false, false, false, false, false, false, false, false, false, false, false, false, false, false, false, false, false, false, false, false, false]
abbrev qa26 : Array Bool := #[true, true, true, true, true, true, true, true, true, true, true, true, true, true, true, true, true, true, true, true, true, true, true, true, true, true, false, false, false, false, false, false, false, false, false, false, false, false, false, false, false, false, false, false, false, false, false, false, false, false, false, false, false, false, false, false, false, false, false, false]
abbrev qa27 : Array Bool := #[true, true, true, true, true, true, true, true, true, true, true, true, true, true, true, true, true, true, true, true, true, true, true, true, true, true, true, false, false, false, false, false, false, false, false, false, false, false, false, false, false, false, false, false, false, false, false, false, false, false, false, false, false, false, false, false, false, false, false, false]
abbrev qa28 : Array Bool := #[true, true, true, true, true, true, true, true, true, true, true, true, true, true, true, true, true, true, true, true, true, true, true, true, true, true, true, true, false, false, false, false, false, false, false, false, false, false, false, false, false, false, false, false, false, false, false, false, false, false, false, false, false, false, false, false, false, false, false, false]
abbrev qa29 : Array Bool := #[true, true, true, true, true, true, true, true, true, true, true, true, true, true, true, true, true, true, true, true, true, true, true, true, true, true, true, true, true, false, false, false, false, false, false, false, false, false, false, false, false, false, false, false, false, false, false, false, false, false, false, false, false, false, false, false, false, false, false, false]
abbrev qa30 : Array Bool := #[true, true, true, true, true, true, true, true, true, true, true, true, true, true, true, true, true, true, true, true, true, true, true, true, true, true, true, true, true, true, false, false, false, false, false, false, false, false, false, false, false, false, false, false, false, false, false, false, false, false, false, false, false, false, false, false, false, false, false, false]
abbrev qa31 : Array Bool := #[true, true, true, true, true, true, true, true, true, true, true, true, true, true, true, true, true, true, true, true, true, true, true, true, true, true, true, true, true, true, true, false, false, false, false, false, false, false, false, false, false, false, false, false, false, false, false, false, false, false, false, false, false, false, false, false, false, false, false, false]
abbrev qa32 : Array Bool := #[true, true, true, true, true, true, true, true, true, true, true, true, true, true, true, true, true, true, true, true, true, true, true, true, true, true, true, true, true, true, true, true, false, false, false, false, false, false, false, false, false, false, false, false, false, false, false, false, false, false, false, false, false, false, false, false, false, false, false, false]
abbrev qa33 : Array Bool := #[true, true, true, true, true, true, true, true, true, true, true, true, true, true, true, true, true, true, true, true, true, true, true, true, true, true, true, true, true, true, true, true, true, false, false, false, false, false, false, false, false, false, false, false, false, false, false, false, false, false, false, false, false, false, false, false, false, false, false, false]
abbrev qa34 : Array Bool := #[true, true, true, true, true, true, true, true, true, true, true, true, true, true, true, true, true, true, true, true, true, true, true, true, true, true, true, true, true, true, true, true, true, true, false, false, false, false, false, false, false, false, false, false, false, false, false, false, false, false, false, false, false, false, false, false, false, false, false, false]
abbrev qa35 : Array Bool := #[true, true, true, true, true, true, true, true, true, true, true, true, true, true, true, true, true, true, true, true, true, true, true, true, true, true, true, true, true, true, true, true, true, true, true, false, false, false, false, false, false, false, false, false, false, false, false, false, false, false, false, false, false, false, false, false, false, false, false, false]
abbrev qa36 : Array Bool := #[true, true, true, true, true, true, true, true, true, true, true, true, true, true, true, true, true, true, true, true, true, true, true, true, true, true, true, true, true, true, true, true, true, true, true, true, false, false, false, false, false, false, false, false, false, false, false, false, false, false, false, false, false, false, false, false, false, false, false, false]
abbrev qa37 : Array Bool := #[true, true, true, true, true, true, true, true, true, true, true, true, true, true, true, true, true, true, true, true, true, true, true, true, true, true, true, true, true, true, true, true, true, true, true, true, true, false, false, false, false, false, false, false, false, false, false, false, false, false, false, false, false, false, false, false, false, false, false, false]
abbrev qa38 : Array Bool := #[true, true, true, true, true, true, true, true, true, true, true, true, true, true, true, true, true, true, true, true, true, true, true, true, true, true, true, true, true, true, true, true, true, true, true, true, true, true, false, false, false, false, false, false, false, false, false, false, false, false, false, false, false, false, false, false, false, false, false, false]
abbrev qa39 : Array Bool := #[true, true, true, true, true, true, true, true, true, true, true, true, true, true, true, true, true, true, true, true, true, true, true, true, true, true, true, true, true, true, true, true, true, true, true, true, true, true, true, false, false, false, false, false, false, false, false, false, false, false, false, false, false, false, false, false, false, false, false, false]
abbrev qa40 : Array Bool := #[true, true, true, true, true, true, true, true, true, true, true, true, true, true, true, true, true, true, true, true, true, true, true, true, true, true, true, true, true, true, true, true, true, true, true, true, true, true, true, true, false, false, false, false, false, false, false, false, false, false, false, false, false, false, false, false, false, false, false, false]
abbrev qa41 : Array Bool := #[true, true, true, true, true, true, true, true, true, true, true, true, true, true, true, true, true, true, true, true, true, true, true, true, true, true, true, true, true, true, true, true, true, true, true, true, true, true, true, true, true, false, false, false, false, false, false, false, false, false, false, false, false, false, false, false, false, false, false, false]
abbrev qa42 : Array Bool := #[true, true, true, true, true, true, true, true, true, true, true, true, true, true, true, true, true, true, true, true, true, true, true, true, true, true, true, true, true, true, true, true, true, true, true, true, true, true, true, true, true, true, false, false, false, false, false, false, false, false, false, false, false, false, false, false, false, false, false, false]
abbrev qa43 : Array Bool := #[true, true, true, true, true, true, true, true, true, true, true, true, true, true, true, true, true, true, true, true, true, true, true, true, true, true, true, true, true, true, true, true, true, true, true, true, true, true, true, true, true, true, true, false, false, false, false, false, false, false, false, false, false, false, false, false, false, false, false, false]
abbrev qa44 : Array Bool := #[true, true, true, true, true, true, true, true, true, true, true, true, true, true, true, true, true, true, true, true, true, true, true, true, true, true, true, true, true, true, true, true, true, true, true, true, true, true, true, true, true, true, true, true, false, false, false, false, false, false, false, false, false, false, false, false, false, false, false, false]
abbrev qa45 : Array Bool := #[true, true, true, true, true, true, true, true, true, true, true, true, true, true, true, true, true, true, true, true, true, true, true, true, true, true, true, true, true, true, true, true, true, true, true, true, true, true, true, true, true, true, true, true, true, false, false, false, false, false, false, false, false, false, false, false, false, false, false, false]
abbrev qa46 : Array Bool := #[true, true, true, true, true, true, true, true, true, true, true, true, true, true, true, true, true, true, true, true, true, true, true, true, true, true, true, true, true, true, true, true, true, true, true, true, true, true, true, true, true, true, true, true, true, true, false, false, false, false, false, false, false, false, false, false, false, false, false, false]
abbrev qa47 : Array Bool := #[true, true, true, true, true, true, true, true, true, true, true, true, true, true, true, true, true, true, true, true, true, true, true, true, true, true, true, true, true, true, true, true, true, true, true, true, true, true, true, true, true, true, true, true, true, true, true, false, false, false, false, false, false, false, false, false, false, false, false, false]
abbrev qa48 : Array Bool := #[true, true, true, true, true, true, true, true, true, true, true, true, true, true, true, true, true, true, true, true, true, true, true, true, true, true, true, true, true, true, true, true, true, true, true, true, true, true, true, true, true, true, true, true, true, true, true, true, false, false, false, false, false, false, false, false, false, false, false, false]
abbrev qa49 : Array Bool := #[true, true, true, true, true, true, true, true, true, true, true, true, true, true, true, true, true, true, true, true, true, true, true, true, true, true, true, true, true, true, true, true, true, true, true, true, true, true, true, true, true, true, true, true, true, true, true, true, true, false, false, false, false, false, false, false, false, false, false, false]
abbrev qa50 : Array Bool := #[true, true, true, true, true, true, true, true, true, true, true, true, true, true, true, true, true, true, true, true, true, true, true, true, true, true, true, true, true, true, true, true, true, true, true, true, true, true, true, true, true, true, true, true, true, true, true, true, true, true, false, false, false, false, false, false, false, false, false, false]
abbrev qa51 : Array Bool := #[true, true, true, true, true, true, true, true, true, true, true, true, true, true, true, true, true, true, true, true, true, true, true, true, true, true, true, true, true, true, true, true, true, true, true, true, true, true, true, true, true, true, true, true, true, true, true, true, true, true, true, false, false, false, false, false, false, false, false, false]
abbrev qa52 : Array Bool := #[true, true, true, true, true, true, true, true, true, true, true, true, true, true, true, true, true, true, true, true, true, true, true, true, true, true, true, true, true, true, true, true, true, true, true, true, true, true, true, true, true, true, true, true, true, true, true, true, true, true, true, true, false, false, false, false, false, false, false, false]
abbrev qa53 : Array Bool := #[true, true, true, true, true, true, true, true, true, true, true, true, true, true, true, true, true, true, true, true, true, true, true, true, true, true, true, true, true, true, true, true, true, true, true, true, true, true, true, true, true, true, true, true, true, true, true, true, true, true, true, true, true, false, false, false, false, false, false, false]
abbrev qa54 : Array Bool := #[true, true, true, true, true, true, true, true, true, true, true, true, true, true, true, true, true, true, true, true, true, true, true, true, true, true, true, true, true, true, true, true, true, true, true, true, true, true, true, true, true, true, true, true, true, true, true, true, true, true, true, true, true, true, false, false, false, false, false, false]
abbrev qa55 : Array Bool := #[true, true, true, true, true, true, true, true, true, true, true, true, true, true, true, true, true, true, true, true, true, true, true, true, true, true, true, true, true, true, true, true, true, true, true, true, true, true, true, true, true, true, true, true, true, true, true, true, true, true, true, true, true, true, true, false, false, false, false, false]
abbrev qa56 : Array Bool := #[true, true, true, true, true, true, true, true, true, true, true, true, true, true, true, true, true, true, true, true, true, true, true, true, true, true, true, true, true, true, true, true, true, true, true, true, true, true, true, true, true, true, true, true, true, true, true, true, true, true, true, true, true, true, true, true, false, false, false, false]
abbrev qa57 : Array Bool := #[true, true, true, true, true, true, true, true, true, true, true, true, true, true, true, true, true, true, true, true, true, true, true, true, true, true, true, true, true, true, true, true, true, true, true, true, true, true, true, true, true, true, true, true, true, true, true, true, true, true, true, true, true, true, true, true, true, false, false, false]
abbrev qa58 : Array Bool := #[true, true, true, true, true, true, true, true, true, true, true, true, true, true, true, true, true, true, true, true, true, true, true, true, true, true, true, true, true, true, true, true, true, true, true, true, true, true, true, true, true, true, true, true, true, true, true, true, true, true, true, true, true, true, true, true, true, true, false, false]
abbrev qa59 : Array Bool := #[true, true, true, true, true, true, true, true, true, true, true, true, true, true, true, true, true, true, true, true, true, true, true, true, true, true, true, true, true, true, true, true, true, true, true, true, true, true, true, true, true, true, true, true, true, true, true, true, true, true, true, true, true, true, true, true, true, true, true, false]
abbrev qa60 : Array Bool := #[true, true, true, true, true, true, true, true, true, true, true, true, true, true, true, true, true, true, true, true, true, true, true, true, true, true, true, true, true, true, true, true, true, true, true, true, true, true, true, true, true, true, true, true, true, true, true, true, true, true, true, true, true, true, true, true, true, true, true, true]
abbrev qa61 : Array Bool := #[true, true, true, true, true, true, true, true, true, true, true, false, true, false, false, false, false, false, false, false, false, false, false, false, false, false, false, false, false, false, false, false, false, false, false, false, false, false, false, false, false, false, false, false, false, false, false, false, false, false, false, false, false, false, false, false, false, false, false, false]
abbrev qa62 : Array Bool := #[true, true, true, true, true, true, true, true, true, true, true, false, true, true, false, false, false, false, false, false, false, false, false, false, false, false, false, false, false, false, false, false, false, false, false, false, false, false, false, false, false, false, false, false, false, false, false, false, false, false, false, false, false, false, false, false, false, false, false, false]
abbrev qa63 : Array Bool := #[true, true, true, true, true, true, true, true, true, true, true, false, true, true, true, false, false, false, false, false, false, false, false, false, false, false, false, false, false, false, false, false, false, false, false, false, false, false, false, false, false, false, false, false, false, false, false, false, false, false, false, false, false, false, false, false, false, false, false, false]
abbrev qa64 : Array Bool := #[true, true, true, true, true, true, true, true, true, true, true, false, true, true, true, true, false, false, false, false, false, false, false, false, false, false, false, false, false, false, false, false, false, false, false, false, false, false, false, false, false, false, false, false, false, false, false, false, false, false, false, false, false, false, false, false, false, false, false, false]
abbrev qa65 : Array Bool := #[true, true, true, true, true, true, true, true, true, true, true, true, true, true, true, true, true, true, true, true, true, true, true, true, true, true, false, true, false, false, false, false, false, false, false, false, false, false, false, false, false, false, false, false, false, false, false, false, false, false, false, false, false, false, false, false, false, false, false, false]
abbrev qa66 : Array Bool := #[true, true, true, true, true, true, true, true, true, true, true, true, true, true, true, true, true, true, true, true, true, true, true, true, true, true, false, true, true, false, false, false, false, false, false, false, false, false, false, false, false, false, false, false, false, false, false, false, false, false, false, false, false, false, false, false, false, false, false, false]
abbrev qa67 : Array Bool := #[true, true, true, true, true, true, true, true, true, true, true, true, true, true, true, true, true, true, true, true, true, true, true, true, true, true, false, true, true, true, false, false, false, false, false, false, false, false, false, false, false, false, false, false, false, false, false, false, false, false, false, false, false, false, false, false, false, false, false, false]
abbrev qa68 : Array Bool := #[true, true, true, true, true, true, true, true, true, true, true, true, true, true, true, true, true, true, true, true, true, true, true, true, true, true, false, true, true, true, true, false, false, false, false, false, false, false, false, false, false, false, false, false, false, false, false, false, false, false, false, false, false, false, false, false, false, false, false, false]
abbrev qa69 : Array Bool := #[true, true, true, true, true, true, true, true, true, true, true, true, true, true, true, true, true, true, true, true, true, true, true, true, true, true, false, true, true, true, true, true, false, false, false, false, false, false, false, false, false, false, false, false, false, false, false, false, false, false, false, false, false, false, false, false, false, false, false, false]
abbrev qa70 : Array Bool := #[true, true, true, true, true, true, true, true, true, true, true, true, true, true, true, true, true, true, true, true, true, true, true, true, true, true, true, true, true, true, true, true, true, true, true, true, true, true, true, true, true, true, true, true, true, true, true, true, true, true, true, true, false, true, false, false, false, false, false, false]
abbrev qa71 : Array Bool := #[true, true, true, true, true, true, true, true, true, true, true, true, true, true, true, true, true, true, true, true, true, true, true, true, true, true, true, true, true, true, true, true, true, true, true, true, true, true, true, true, true, true, true, true, true, true, true, true, true, true, true, true, false, true, true, false, false, false, false, false]
abbrev qa72 : Array Bool := #[true, true, true, true, true, true, true, true, true, true, true, true, true, true, true, true, true, true, true, true, true, true, true, true, true, true, true, true, true, true, true, true, true, true, true, true, true, true, true, true, true, true, true, true, true, true, true, true, true, true, true, true, false, true, true, true, false, false, false, false]
abbrev qa73 : Array Bool := #[true, true, true, true, true, true, true, true, true, true, true, true, true, true, true, true, true, true, true, true, true, true, true, true, true, true, true, true, true, true, true, true, true, true, true, true, true, true, true, true, true, true, true, true, true, true, true, true, true, true, true, true, false, true, true, true, true, false, false, false]
abbrev qa74 : Array Bool := #[false, false, false, false, false, false, false, false, false, false]
abbrev qa75 : Array Bool := #[true, false, false, false, false, false, false, false, false, false]
abbrev qa76 : Array Bool := #[true, true, false, false, false, false, false, false, false, false]
abbrev qa77 : Array Bool := #[true, true, true, false, false, false, false, false, false, false]
abbrev qa78 : Array Bool := #[true, true, true, true, false, false, false, false, false, false]
abbrev qa79 : Array Bool := #[true, true, true, true, false, true, false, false, false, false]
abbrev qa80 : Array Bool := #[true, true, true, true, false, true, true, false, false, false]
abbrev qa81 : Array Bool := #[true, true, true, true, false, true, true, true, false, false]
abbrev qa82 : Array Bool := #[true, true, true, true, true, true, true, true, false, false]
abbrev qa83 : Array Bool := #[true, true, true, true, true, true, true, true, true, false]
abbrev qa84 : Array Bool := #[true, true, true, true, true, true, true, true, true, true]
abbrev qa85 : Array Bool := #[false, false, false, false, false, false, false, false, false, false, false, false, false, false]
abbrev qa86 : Array Bool := #[true, false, false, false, false, false, false, false, false, false, false, false, false, false]
abbrev qa87 : Array Bool := #[true, true, false, false, false, false, false, false, false, false, false, false, false, false]
abbrev qa88 : Array Bool := #[true, true, true, false, false, false, false, false, false, false, false, false, false, false]
abbrev qa89 : Array Bool := #[true, true, true, true, false, false, false, false, false, false, false, false, false, false]
abbrev qa90 : Array Bool := #[true, true, true, true, false, true, false, false, false, false, false, false, false, false]
abbrev qa91 : Array Bool := #[true, true, true, true, false, true, true, false, false, false, false, false, false, false]
abbrev qa92 : Array Bool := #[true, true, true, true, false, true, true, true, false, false, false, false, false, false]
abbrev qa93 : Array Bool := #[true, true, true, true, false, true, true, true, true, false, false, false, false, false]
abbrev qa94 : Array Bool := #[true, true, true, true, true, true, true, true, true, false, false, false, false, false]
abbrev qa95 : Array Bool := #[true, true, true, true, true, true, true, true, true, true, false, false, false, false]
abbrev qa96 : Array Bool := #[true, true, true, true, true, true, true, true, true, true, true, false, false, false]
abbrev qa97 : Array Bool := #[true, true, true, true, true, true, true, true, true, true, true, true, false, false]
abbrev qa98 : Array Bool := #[true, true, true, true, true, true, true, true, true, true, true, true, true, false]
abbrev qa99 : Array Bool := #[true, true, true, true, true, true, true, true, true, true, true, true, true, true]
theorem qax {α : Type} (l : List α) (i : Nat) (a : α) : l.toArray.setIfInBounds i a = (l.set i a).toArray := List.setIfInBounds_toArray ..
theorem qay {α : Type} (x : α) (l : List α) (a : α) : (x :: l).set 0 a = a :: l := List.set_cons_zero ..
theorem qaz {α : Type} (x : α) (l : List α) (n : Nat) (a : α) : (x :: l).set (n + 1) a = x :: l.set n a := List.set_cons_succ ..
mutual
def quittancelaw11_ProrateTerm.j0 : Nat → Int → Int → Int → List (S51) → Int → Bool → Option (Bool)
 | 0, _, _, _, _, _, _ => none
 | k + 1, x0, x1, x2, x7, x8, x35 => if x35 = true then (if x8 = 0 then ((quittancelaw11_head.f k).bind fun t230 => (some t230)) else (if (x7.length : Int) = 0 then ((quittancelaw11_head.f k).bind fun t231 => (some t231)) else (some false))) else (quittancelaw11_ProrateTerm.l0 k x0 x1 x2 x7 0 0)
def quittancelaw11_ProrateTerm.l0 : Nat → Int → Int → Int → List (S51) → Int → Int → Option (Bool)
 | 0, _, _, _, _, _, _ => none
 | k + 1, x0, x1, x2, x7, x9, x10 => if x10 < (x7.length : Int) then (if 0 ≤ x10 then ((quittanceref08_DaysB.f ((rd_T51 x7 x10).f0)).bind fun bt233 => (if ((rd_T51 x7 x10).f1) < 1 then (quittancelaw11_ProrateTerm.j2 k x0 x1 x2 x7 x9 x10 true) else (if ((rd_T51 x7 x10).f1) > (wrap64 ((wrap64 (bt233.2.1 - bt233.1)) + 1)) then (quittancelaw11_ProrateTerm.j2 k x0 x1 x2 x7 x9 x10 true) else (if x10 > 0 then (if 0 ≤ (wrap64 (x10 - 1)) then (if (wrap64 (x10 - 1)) < (x7.length : Int) then (if ((rd_T51 x7 x10).f0) = (wrap64 (((rd_T51 x7 (wrap64 (x10 - 1))).f0) + 1)) then (if (wrap64 (x10 + 1)) < (x7.length : Int) then (quittancelaw11_ProrateTerm.j2 k x0 x1 x2 x7 x9 x10 (((rd_T51 x7 x10).f1) != (wrap64 ((wrap64 (bt233.2.1 - bt233.1)) + 1)))) else (quittancelaw11_ProrateTerm.j2 k x0 x1 x2 x7 x9 x10 false)) else (quittancelaw11_ProrateTerm.j2 k x0 x1 x2 x7 x9 x10 true)) else (none)) else (none)) else (quittancelaw11_ProrateTerm.j2 k x0 x1 x2 x7 x9 x10 false))))) else (none)) else ((quittanceref08_Of.f x0).bind fun bt242 => (if x9 = (wrap64 (x1 - x0)) then (if (x7.length : Int) = 0 then (quittancelaw11_ProrateTerm.j3 k x0 x1 x2 x7 true) else (if 0 < (x7.length : Int) then (quittancelaw11_ProrateTerm.j3 k x0 x1 x2 x7 (((rd_T51 x7 0).f0) != bt242.1)) else (none))) else (quittancelaw11_ProrateTerm.j3 k x0 x1 x2 x7 true)))
def quittancelaw11_ProrateTerm.j2 : Nat → Int → Int → Int → List (S51) → Int → Int → Bool → Option (Bool)
 | 0, _, _, _, _, _, _, _ => none
 | k + 1, x0, x1, x2, x7, x9, x10, x121 => if x121 = true then (some false) else (if 0 ≤ x10 then (if x10 < (x7.length : Int) then (quittancelaw11_ProrateTerm.l0 k x0 x1 x2 x7 (wrap64 (x9 + ((rd_T51 x7 x10).f1))) (wrap64 (x10 + 1))) else (none)) else (none))
def quittancelaw11_ProrateTerm.j3 : Nat → Int → Int → Int → List (S51) → Bool → Option (Bool)
 | 0, _, _, _, _, _ => none
 | k + 1, x0, x1, x2, x7, x151 => if x151 = true then (some false) else (if (wrap64 (x1 - x0)) = 0 then (none) else (if (wrap64 (x0 + (Int.tmod x2 (wrap64 (x1 - x0))))) ≤ x0 then ((quittancelaw11_head.f k).bind fun t245 => (some t245)) else ((prorate_Months.f x0 (wrap64 (x0 + (Int.tmod x2 (wrap64 (x1 - x0)))))).bind fun bt246 => ((prorate_Months.f (wrap64 (x0 + (Int.tmod x2 (wrap64 (x1 - x0))))) x1).bind fun bt250 => (if bt246.2 = 0 then (if bt250.2 = 0 then (if (bt246.1.length : Int) = 0 then (quittancelaw11_ProrateTerm.j4 k x7 bt246.1 bt250.1 true) else (quittancelaw11_ProrateTerm.j4 k x7 bt246.1 bt250.1 ((bt250.1.length : Int) == 0))) else (quittancelaw11_ProrateTerm.j4 k x7 bt246.1 bt250.1 true)) else (quittancelaw11_ProrateTerm.j4 k x7 bt246.1 bt250.1 true))))))
def quittancelaw11_ProrateTerm.j4 : Nat → List (S51) → List (S51) → List (S51) → Bool → Option (Bool)
 | 0, _, _, _, _ => none
 | k + 1, x7, x17, x19, x190 => if x190 = true then (some false) else (if 0 ≤ (wrap64 ((x17.length : Int) - 1)) then (if (wrap64 ((x17.length : Int) - 1)) < (x17.length : Int) then (if 0 < (x19.length : Int) then (if ((rd_T51 x17 (wrap64 ((x17.length : Int) - 1))).f0) = ((rd_T51 x19 0).f0) then (if (wrap64 ((x17.length : Int) - 1)) ≤ (x17.length : Int) then (quittancelaw11_ProrateTerm.j5 k x7 (x17.take ((wrap64 ((x17.length : Int) - 1)) : Int).toNat) (x19.set (0 : Int).toNat (⟨(rd_T51 x19 0).f0, wrap64 (((rd_T51 x19 0).f1) + ((rd_T51 x17 (wrap64 ((x17.length : Int) - 1))).f1))⟩ : S51))) else (none)) else (quittancelaw11_ProrateTerm.j5 k x7 x17 x19)) else (none)) else (none)) else (none))
def quittancelaw11_ProrateTerm.j5 : Nat → List (S51) → List (S51) → List (S51) → Option (Bool)
 | 0, _, _, _ => none
 | k + 1, x7, x17, x19 => (some (([] : List (S51)) : List (S51))).bind fun y262 => (if y262.length + x17.length < 8796093022208 then ((some (y262 ++ x17 : List (S51))).bind fun y265 => (if y265.length + x19.length < 8796093022208 then ((quittanceref11_Same.f k (y265 ++ x19) x7).bind fun t271 => (if t271 = true then ((quittancelaw11_head.f k).bind fun t272 => (some t272)) else (some false))) else (none))) else (none))
end
def quittancelaw11_ProrateTerm.f (k : Nat) (a0 : Int) (a1 : Int) (a2 : Int) : Option (Bool) := (prorate_Months.f a0 a1).bind fun bt226 => (if bt226.2 = 0 then (quittancelaw11_ProrateTerm.j0 k a0 a1 a2 bt226.1 bt226.2 (decide ((wrap64 (a1 - a0)) > 4000))) else (quittancelaw11_ProrateTerm.j0 k a0 a1 a2 bt226.1 bt226.2 true))
theorem quittancelaw11_ProrateTerm.mono_l : ∀ k, (∀ y0 y1 y2 y3 y4 y5, LeO (quittancelaw11_ProrateTerm.j0 k y0 y1 y2 y3 y4 y5) (quittancelaw11_ProrateTerm.j0 (k + 1) y0 y1 y2 y3 y4 y5)) ∧ (∀ y0 y1 y2 y3 y4 y5, LeO (quittancelaw11_ProrateTerm.l0 k y0 y1 y2 y3 y4 y5) (quittancelaw11_ProrateTerm.l0 (k + 1) y0 y1 y2 y3 y4 y5)) ∧ (∀ y0 y1 y2 y3 y4 y5 y6, LeO (quittancelaw11_ProrateTerm.j2 k y0 y1 y2 y3 y4 y5 y6) (quittancelaw11_ProrateTerm.j2 (k + 1) y0 y1 y2 y3 y4 y5 y6)) ∧ (∀ y0 y1 y2 y3 y4, LeO (quittancelaw11_ProrateTerm.j3 k y0 y1 y2 y3 y4) (quittancelaw11_ProrateTerm.j3 (k + 1) y0 y1 y2 y3 y4)) ∧ (∀ y0 y1 y2 y3, LeO (quittancelaw11_ProrateTerm.j4 k y0 y1 y2 y3) (quittancelaw11_ProrateTerm.j4 (k + 1) y0 y1 y2 y3)) ∧ (∀ y0 y1 y2, LeO (quittancelaw11_ProrateTerm.j5 k y0 y1 y2) (quittancelaw11_ProrateTerm.j5 (k + 1) y0 y1 y2))
 | 0 => ⟨fun _ _ _ _ _ _ r h => by simp [quittancelaw11_ProrateTerm.j0] at h, fun _ _ _ _ _ _ r h => by simp [quittancelaw11_ProrateTerm.l0] at h, fun _ _ _ _ _ _ _ r h => by simp [quittancelaw11_ProrateTerm.j2] at h, fun _ _ _ _ _ r h => by simp [quittancelaw11_ProrateTerm.j3] at h, fun _ _ _ _ r h => by simp [quittancelaw11_ProrateTerm.j4] at h, fun _ _ _ r h => by simp [quittancelaw11_ProrateTerm.j5] at h⟩
 | k + 1 => by
  obtain ⟨ih0, ih1, ih2, ih3, ih4, ih5⟩ := quittancelaw11_ProrateTerm.mono_l k
  refine ⟨?_, ?_, ?_, ?_, ?_, ?_⟩
  ·intro y0 y1 y2 y3 y4 y5
   unfold quittancelaw11_ProrateTerm.j0
   repeat' first
   | (with_reducible exact ih0 _ _ _ _ _ _)
   | (with_reducible exact ih1 _ _ _ _ _ _)
   | (with_reducible exact ih2 _ _ _ _ _ _ _)
   | (with_reducible exact ih3 _ _ _ _ _)
   | (with_reducible exact ih4 _ _ _ _)
   | (with_reducible exact ih5 _ _ _)
   | (with_reducible exact quittancelaw11_head.mono _)
   | (with_reducible exact quittanceref11_Same.mono _ _ _)
   | (with_reducible exact LeO.refl _)
   | (with_reducible exact LeO.none _)
   | (with_reducible refine LeO.ite ?_ ?_)
   | (with_reducible refine LeO.bind ?_ (fun _ => ?_))
   | exact ih0 _ _ _ _ _ _
   | exact ih1 _ _ _ _ _ _
   | exact ih2 _ _ _ _ _ _ _
   | exact ih3 _ _ _ _ _
   | exact ih4 _ _ _ _
   | exact ih5 _ _ _
   | exact quittancelaw11_head.mono _
   | exact quittanceref11_Same.mono _ _ _
   | exact LeO.none _
   | refine LeO.ite ?_ ?_
   | refine LeO.bind ?_ (fun _ => ?_)
  ·intro y0 y1 y2 y3 y4 y5
   unfold quittancelaw11_ProrateTerm.l0
   repeat' first
   | (with_reducible exact ih0 _ _ _ _ _ _)
   | (with_reducible exact ih1 _ _ _ _ _ _)
   | (with_reducible exact ih2 _ _ _ _ _ _ _)
   | (with_reducible exact ih3 _ _ _ _ _)
   | (with_reducible exact ih4 _ _ _ _)
   | (with_reducible exact ih5 _ _ _)
   | (with_reducible exact quittancelaw11_head.mono _)
   | (with_reducible exact quittanceref11_Same.mono _ _ _)
   | (with_reducible exact LeO.refl _)
   | (with_reducible exact LeO.none _)
   | (with_reducible refine LeO.ite ?_ ?_)
   | (with_reducible refine LeO.bind ?_ (fun _ => ?_))
   | exact ih0 _ _ _ _ _ _
   | exact ih1 _ _ _ _ _ _
   | exact ih2 _ _ _ _ _ _ _
   | exact ih3 _ _ _ _ _
   | exact ih4 _ _ _ _
   | exact ih5 _ _ _
   | exact quittancelaw11_head.mono _
   | exact quittanceref11_Same.mono _ _ _
   | exact LeO.none _
   | refine LeO.ite ?_ ?_
   | refine LeO.bind ?_ (fun _ => ?_)
  ·intro y0 y1 y2 y3 y4 y5 y6
   unfold quittancelaw11_ProrateTerm.j2
   repeat' first
   | (with_reducible exact ih0 _ _ _ _ _ _)
   | (with_reducible exact ih1 _ _ _ _ _ _)
   | (with_reducible exact ih2 _ _ _ _ _ _ _)
   | (with_reducible exact ih3 _ _ _ _ _)
   | (with_reducible exact ih4 _ _ _ _)
   | (with_reducible exact ih5 _ _ _)
   | (with_reducible exact quittancelaw11_head.mono _)
   | (with_reducible exact quittanceref11_Same.mono _ _ _)
   | (with_reducible exact LeO.refl _)
   | (with_reducible exact LeO.none _)
   | (with_reducible refine LeO.ite ?_ ?_)
   | (with_reducible refine LeO.bind ?_ (fun _ => ?_))
   | exact ih0 _ _ _ _ _ _
   | exact ih1 _ _ _ _ _ _
   | exact ih2 _ _ _ _ _ _ _
   | exact ih3 _ _ _ _ _
   | exact ih4 _ _ _ _
   | exact ih5 _ _ _
   | exact quittancelaw11_head.mono _
   | exact quittanceref11_Same.mono _ _ _
   | exact LeO.none _
   | refine LeO.ite ?_ ?_
   | refine LeO.bind ?_ (fun _ => ?_)
  ·intro y0 y1 y2 y3 y4
   unfold quittancelaw11_ProrateTerm.j3
   repeat' first
   | (with_reducible exact ih0 _ _ _ _ _ _)
   | (with_reducible exact ih1 _ _ _ _ _ _)
   | (with_reducible exact ih2 _ _ _ _ _ _ _)
   | (with_reducible exact ih3 _ _ _ _ _)
   | (with_reducible exact ih4 _ _ _ _)
   | (with_reducible exact ih5 _ _ _)
   | (with_reducible exact quittancelaw11_head.mono _)
   | (with_reducible exact quittanceref11_Same.mono _ _ _)
   | (with_reducible exact LeO.refl _)
   | (with_reducible exact LeO.none _)
   | (with_reducible refine LeO.ite ?_ ?_)
   | (with_reducible refine LeO.bind ?_ (fun _ => ?_))
   | exact ih0 _ _ _ _ _ _
   | exact ih1 _ _ _ _ _ _
   | exact ih2 _ _ _ _ _ _ _
   | exact ih3 _ _ _ _ _
   | exact ih4 _ _ _ _
   | exact ih5 _ _ _
   | exact quittancelaw11_head.mono _
   | exact quittanceref11_Same.mono _ _ _
   | exact LeO.none _
   | refine LeO.ite ?_ ?_
   | refine LeO.bind ?_ (fun _ => ?_)
  ·intro y0 y1 y2 y3
   unfold quittancelaw11_ProrateTerm.j4
   repeat' first
   | (with_reducible exact ih0 _ _ _ _ _ _)
   | (with_reducible exact ih1 _ _ _ _ _ _)
   | (with_reducible exact ih2 _ _ _ _ _ _ _)
   | (with_reducible exact ih3 _ _ _ _ _)
   | (with_reducible exact ih4 _ _ _ _)
   | (with_reducible exact ih5 _ _ _)
   | (with_reducible exact quittancelaw11_head.mono _)
   | (with_reducible exact quittanceref11_Same.mono _ _ _)
   | (with_reducible exact LeO.refl _)
   | (with_reducible exact LeO.none _)
   | (with_reducible refine LeO.ite ?_ ?_)
   | (with_reducible refine LeO.bind ?_ (fun _ => ?_))
   | exact ih0 _ _ _ _ _ _
   | exact ih1 _ _ _ _ _ _
   | exact ih2 _ _ _ _ _ _ _
   | exact ih3 _ _ _ _ _
   | exact ih4 _ _ _ _
   | exact ih5 _ _ _
   | exact quittancelaw11_head.mono _
   | exact quittanceref11_Same.mono _ _ _
   | exact LeO.none _
   | refine LeO.ite ?_ ?_
   | refine LeO.bind ?_ (fun _ => ?_)
  ·intro y0 y1 y2
   unfold quittancelaw11_ProrateTerm.j5
   repeat' first
   | (with_reducible exact ih0 _ _ _ _ _ _)
   | (with_reducible exact ih1 _ _ _ _ _ _)
   | (with_reducible exact ih2 _ _ _ _ _ _ _)
   | (with_reducible exact ih3 _ _ _ _ _)
   | (with_reducible exact ih4 _ _ _ _)
   | (with_reducible exact ih5 _ _ _)
   | (with_reducible exact quittancelaw11_head.mono _)
   | (with_reducible exact quittanceref11_Same.mono _ _ _)
   | (with_reducible exact LeO.refl _)
   | (with_reducible exact LeO.none _)
   | (with_reducible refine LeO.ite ?_ ?_)
   | (with_reducible refine LeO.bind ?_ (fun _ => ?_))
   | exact ih0 _ _ _ _ _ _
   | exact ih1 _ _ _ _ _ _
   | exact ih2 _ _ _ _ _ _ _
   | exact ih3 _ _ _ _ _
   | exact ih4 _ _ _ _
   | exact ih5 _ _ _
   | exact quittancelaw11_head.mono _
   | exact quittanceref11_Same.mono _ _ _
   | exact LeO.none _
   | refine LeO.ite ?_ ?_
   | refine LeO.bind ?_ (fun _ => ?_)
theorem quittancelaw11_ProrateTerm.mono : ∀ a0 a1 a2 k, LeO (quittancelaw11_ProrateTerm.f k a0 a1 a2) (quittancelaw11_ProrateTerm.f (k + 1) a0 a1 a2) := by
 intro a0 a1 a2 k
 obtain ⟨ih0, ih1, ih2, ih3, ih4, ih5⟩ := quittancelaw11_ProrateTerm.mono_l k
 unfold quittancelaw11_ProrateTerm.f
 repeat' first
   | (with_reducible exact ih0 _ _ _ _ _ _)
   | (with_reducible exact ih1 _ _ _ _ _ _)
   | (with_reducible exact ih2 _ _ _ _ _ _ _)
   | (with_reducible exact ih3 _ _ _ _ _)
   | (with_reducible exact ih4 _ _ _ _)
   | (with_reducible exact ih5 _ _ _)
   | (with_reducible exact quittancelaw11_head.mono _)
   | (with_reducible exact quittanceref11_Same.mono _ _ _)
   | (with_reducible exact LeO.refl _)
   | (with_reducible exact LeO.none _)
   | (with_reducible refine LeO.ite ?_ ?_)
   | (with_reducible refine LeO.bind ?_ (fun _ => ?_))
   | exact ih0 _ _ _ _ _ _
   | exact ih1 _ _ _ _ _ _
   | exact ih2 _ _ _ _ _ _ _
   | exact ih3 _ _ _ _ _
   | exact ih4 _ _ _ _
   | exact ih5 _ _ _
   | exact quittancelaw11_head.mono _
   | exact quittanceref11_Same.mono _ _ _
   | exact LeO.none _
   | refine LeO.ite ?_ ?_
   | refine LeO.bind ?_ (fun _ => ?_)
def quittancelaw11_ProrateTerm.T9 : Bool × List (List Nat × List Nat) := (true, [([], []), ([], []), ([0, 1], [0, 1]), ([2], [2]), ([3], [3]), ([4], [4]), ([5], [5]), ([6], [6]), ([6], [6]), ([7, 8, 6], [6, 7, 8]), ([9, 6], [6, 9]), ([10, 6], [6, 10]), ([6], [6]), ([6], [6]), ([12, 13, 6], [6, 12, 13]), ([14, 6], [6, 14]), ([11, 15, 6], [6, 11, 15]), ([6, 16], [6, 16]), ([17, 6], [17]), ([18], [18]), ([19, 18], [18, 19]), ([20, 18, 18], [18, 20]), ([21], [21]), ([21], [21]), ([22, 23, 21], [21, 22, 23]), ([24, 21], [21, 24]), ([25, 21], [21, 25]), ([21], [21]), ([21], [21]), ([28, 21], [21, 28]), ([27, 29, 21], [21, 27, 29]), ([30, 21], [21, 30]), ([31, 21], [21, 31]), ([32, 21], [21, 32]), ([26, 33, 21], [21, 26, 33]), ([21, 34, 18], [18, 21, 34]), ([18, 35], [18, 35]), ([36, 21], [36]), ([37], [37]), ([38, 37], [37, 38]), ([39, 37, 37], [37, 39]), ([40], [40]), ([41, 40], [40, 41]), ([40], [40]), ([43, 40], [40, 43]), ([42, 44, 40], [40, 42, 44]), ([40, 45, 37], [37, 40, 45]), ([46, 40, 37], [37, 46]), ([47], [47]), ([47], [47]), ([48, 49, 47], [47, 48, 49]), ([50, 47], [47, 50]), ([51, 47], [47, 51]), ([47], [47]), ([47], [47]), ([53, 54, 47], [47, 53, 54]), ([55, 47], [47, 55]), ([52, 56, 47], [47, 52, 56]), ([47, 57, 37], [37, 47, 57]), ([37, 58], [37, 58])])
def quittancelaw11_ProrateTerm.B9 : List Nat := [0, 0, 3, 7, 15, 31, 63, 127, 127, 511, 1023, 2047, 127, 127, 12415, 28799, 65535, 131071, 262143, 524287, 1048575, 2097151, 4194303, 4194303, 16777215, 33554431, 67108863, 4194303, 4194303, 272629759, 943718399, 2017460223, 4164943871, 8459911167, 17179869183, 34359738367, 68719476735, 137438953471, 274877906943, 549755813887, 1099511627775, 2199023255551, 4398046511103, 2199023255551, 10995116277759, 35184372088831, 70368744177663, 140737488355327, 281474976710655, 281474976710655, 1125899906842623, 2251799813685247, 4503599627370495, 281474976710655, 281474976710655, 27303072740933631, 63331869759897599, 144115188075855871, 288230376151711743, 576460752303423487]
theorem quittancelaw11_ProrateTerm.tab9 : rtab .any (opsOf Tryd.f8 9) = quittancelaw11_ProrateTerm.T9 := by kernel_rfl
theorem quittancelaw11_ProrateTerm.bits9 : waitsOk quittancelaw11_ProrateTerm.T9.2 quittancelaw11_ProrateTerm.B9 = true := by kernel_rfl
def quittancelaw11_ProrateTerm.T23 : Bool × List (List Nat × List Nat) := (true, [([], []), ([], []), ([0, 1], [0, 1]), ([2], [2]), ([3], [3]), ([], []), ([5], [5]), ([6], [6]), ([7], [7]), ([4, 8], [4, 8])])
def quittancelaw11_ProrateTerm.B23 : List Nat := [0, 0, 3, 7, 15, 0, 32, 96, 224, 511]
theorem quittancelaw11_ProrateTerm.tab23 : rtab .any (opsOf Tryd.f8 23) = quittancelaw11_ProrateTerm.T23 := by kernel_rfl
theorem quittancelaw11_ProrateTerm.bits23 : waitsOk quittancelaw11_ProrateTerm.T23.2 quittancelaw11_ProrateTerm.B23 = true := by kernel_rfl
def quittancelaw11_ProrateTerm.T24 : Bool × List (List Nat × List Nat) := (true, [([], []), ([], []), ([1], [1]), ([2], [2]), ([3], [3]), ([], []), ([], []), ([5, 6], [5, 6]), ([7], [7]), ([8], [8]), ([4, 9], [4, 9]), ([0, 0, 1, 2, 3, 4, 5, 6, 7, 8, 9, 10], [0]), ([11, 0, 1, 2, 3, 4, 5, 6, 7, 8, 9, 10], [11]), ([12, 10, 0, 1, 2, 3, 4, 5, 6, 7, 8, 9, 10], [10, 12])])
def quittancelaw11_ProrateTerm.B24 : List Nat := [0, 0, 2, 6, 14, 0, 0, 96, 224, 480, 1022, 2047, 4095, 8191]
theorem quittancelaw11_ProrateTerm.tab24 : rtab .any (opsOf Tryd.f8 24) = quittancelaw11_ProrateTerm.T24 := by kernel_rfl
theorem quittancelaw11_ProrateTerm.bits24 : waitsOk quittancelaw11_ProrateTerm.T24.2 quittancelaw11_ProrateTerm.B24 = true := by kernel_rfl
set_option maxHeartbeats 8000000 in
set_option maxRecDepth 100000 in
theorem quittancelaw11_ProrateTerm.calls (k : Nat) (a0 : Int) (a1 : Int) (a2 : Int) (r : Bool) (w : World) (HTab : Aside0 (Tab w)) (h : quittancelaw11_ProrateTerm.f k a0 a1 a2 = some r) :
  Calls Tryd.prog 8 #[.int .i64 a0, .int .i64 a1, .int .i64 a2] w fun e w' => e = .returned (.bool r) ∧ Below w.heap.size w w' := by
 have HB := Aside0.mk (Below.refl w.heap.size w)
 have H : ((prorate_Months.f a0 a1).bind fun bt226 => (if bt226.2 = 0 then (quittancelaw11_ProrateTerm.j0 k a0 a1 a2 bt226.1 bt226.2 (decide ((wrap64 (a1 - a0)) > 4000))) else (quittancelaw11_ProrateTerm.j0 k a0 a1 a2 bt226.1 bt226.2 true))) = some r := h
 clear h
 replace H := Option.bind_eq_some_iff.mp H
 obtain ⟨⟨t226, t227⟩, A40, H⟩ := H
 replace H : (if t227 = 0 then (quittancelaw11_ProrateTerm.j0 k a0 a1 a2 t226 t227 (decide ((wrap64 (a1 - a0)) > 4000))) else (quittancelaw11_ProrateTerm.j0 k a0 a1 a2 t226 t227 true)) = some r := H
 have A4 := Aside0.mk A40
 clear A40
 have HC5 := Aside0.mk H
 clear H
 go_enter Tryd.func8, Tryd.ntmps8
 go_upto_region 2 with (first | ((with_reducible refine gate_callee (f := 16) rfl ?_); refine goesL_ (some 25) rfl rfl Tryd.func16 (by kernel_rfl) rfl #[.int .i64 a0, .int .i64 a1] rfl (by (try simp only [List.map_toArray, List.map_cons, List.map_nil]); first | done | rfl | (simp only [List.length_drop, List.length_take]; rfl)) ?_; (with_reducible refine (prorate_Months.calls a0 a1 t226 t227 _ (Tab.b HTab (by repeat (first | (with_reducible first | exact HB.out | apply below_alloc | apply pw_below_drewN | apply below_drew1) | exact HB.out))) A4.out).mono ?_); rintro e w6 ⟨v228, rfl, ho0, hb⟩; refine ⟨_, rfl, ?_⟩; have n0_ := Aside0.mk (Kd.R_lower ho0 (below_size (by repeat (first | (with_reducible first | exact HB.out | apply below_alloc | apply pw_below_drewN | apply below_drew1) | exact HB.out)))); have n1_ := Aside0.mk (below_step (by repeat (first | (with_reducible first | exact HB.out | apply below_alloc | apply pw_below_drewN | apply below_drew1) | exact HB.out)) hb); clear HB; have HO229 := n0_; have HB := n1_; clear n0_ n1_; (try clear hb); (try clear hb2); (try clear hk); (try clear hi); (try clear ho0)))
 (try simp only [Act.put, List.setIfInBounds_toArray, List.set_cons_zero, List.set_cons_succ])
 go_cut [35] (fun v35 wc => ∃ (kq : Nat) (x35_4 : Bool), v35 = .bool x35_4 ∧ Aside0 (quittancelaw11_ProrateTerm.j0 kq a0 a1 a2 t226 t227 x35_4 = some r) ∧ Aside0 (kq ≤ k) ∧ Aside0 (Kd.R k51 51 wc w.heap.size (fun _ => True) v228 t226) ∧ Aside0 (Below w.heap.size w wc))
 case first =>
  have H := HC5.out
  clear HC5
  by_cases c7 : t227 = 0
  ·rw [if_pos c7] at H
   have c7b0 : (t227 == 0) = true := beq_iff_eq.mpr c7
   have c7b1 : (t227 != 0) = false := bne_eq_false_iff_eq.mpr c7
   clear c7
   (first | rw [c7b0] | (simp only [i64_w, i32_w]; rw [c7b0]) | skip)
   have H' := Aside0.mk H
   clear H
   go_wp2
   go_meet
   case rel => exact ⟨_, (decide ((wrap64 (a1 - a0)) > 4000)), (by first | rfl | (simp; done) | (simp [*]; done)), H', ⟨by first | omega | exact Nat.le_refl _⟩, ⟨by (with_reducible repeat (first | apply Kd.R_alloc | apply Kd.R_drewN | apply Kd.R_drew)); exact HO229.out⟩, ⟨by repeat (first | (with_reducible first | exact HB.out | apply below_alloc | apply pw_below_drewN | apply below_drew1) | exact HB.out)⟩⟩
  ·rw [if_neg c7] at H
   have c7b0 : (t227 == 0) = false := beq_eq_false_iff_ne.mpr c7
   have c7b1 : (t227 != 0) = true := bne_iff_ne.mpr c7
   (first | rw [c7b0] | (simp only [i64_w, i32_w]; rw [c7b0]) | skip)
   have H' := Aside0.mk H
   clear H
   go_wp2
   go_meet
   case rel => exact ⟨_, (true), (by first | rfl | (simp; done) | (simp [*]; done)), H', ⟨by first | omega | exact Nat.le_refl _⟩, ⟨by (with_reducible repeat (first | apply Kd.R_alloc | apply Kd.R_drewN | apply Kd.R_drew)); exact HO229.out⟩, ⟨by repeat (first | (with_reducible first | exact HB.out | apply below_alloc | apply pw_below_drewN | apply below_drew1) | exact HB.out)⟩⟩
 case rest =>
  clear HC5
  try clear c1
  try clear p2
  try clear p6
  try clear c7
  try clear c7b0
  try clear c7b1
  obtain ⟨kq, x35_4, rfl, HA, HJ4, HO_7, HB⟩ := hcut
  cases kq with
  | zero => exact absurd HA.out (by simp [quittancelaw11_ProrateTerm.j0])
  | succ kj4 =>
   have H := HA.out
   clear HA
   simp only [quittancelaw11_ProrateTerm.j0] at H
   by_cases c8 : x35_4 = true
   ·subst c8
    have H1 : (if t227 = 0 then ((quittancelaw11_head.f kj4).bind fun t230 => (some t230)) else (if (t226.length : Int) = 0 then ((quittancelaw11_head.f kj4).bind fun t231 => (some t231)) else (some false))) = some r := by rw [if_pos rfl] at H; exact H
    clear H
    have H := H1
    clear H1
    by_cases c9 : t227 = 0
    ·rw [if_pos c9] at H
     have c9b0 : (t227 == 0) = true := beq_iff_eq.mpr c9
     have c9b1 : (t227 != 0) = false := bne_eq_false_iff_eq.mpr c9
     clear c9
     replace H := Option.bind_eq_some_iff.mp H
     obtain ⟨t230, A100, H⟩ := H
     replace H : (some t230) = some r := H
     have A10 := Aside0.mk A100
     clear A100
     obtain rfl := Option.some.inj H
     go_wp2_with (first | (go_at_call 13; (with_reducible refine (quittancelaw11_head.calls kj4  t230 _ (Tab.b HTab (by repeat (first | (with_reducible first | exact HB.out | apply below_alloc | apply pw_below_drewN | apply below_drew1) | exact HB.out))) A10.out).mono ?_); rintro e w11 ⟨rfl, hb⟩; have n0_ := Aside0.mk (Kd.R_below (by (with_reducible repeat (first | apply Kd.R_alloc | apply Kd.R_drewN | apply Kd.R_drew)); exact HO_7.out) hb); have n1_ := Aside0.mk (below_step (by repeat (first | (with_reducible first | exact HB.out | apply below_alloc | apply pw_below_drewN | apply below_drew1) | exact HB.out)) hb); clear HO_7; clear HB; have HO_7 := n0_; have HB := n1_; clear n0_ n1_; (try clear hb); (try clear hb2); (try clear hk); (try clear hi)))
     go_ret
     exact ⟨by first | rfl | (simp [errW_none, errW_some] <;> rfl) | (simp [*, errW_none, errW_some] <;> rfl), by repeat (first | (with_reducible first | exact HB.out | apply below_alloc | apply pw_below_drewN | apply below_drew1) | exact HB.out)⟩
    ·as_aux_lemma =>
     rw [if_neg c9] at H
     have c9b0 : (t227 == 0) = false := beq_eq_false_iff_ne.mpr c9
     have c9b1 : (t227 != 0) = true := bne_iff_ne.mpr c9
     by_cases c12 : (t226.length : Int) = 0
     ·rw [if_pos c12] at H
      have c12b0 : ((t226.length : Int) == 0) = true := beq_iff_eq.mpr c12
      have c12b1 : ((t226.length : Int) != 0) = false := bne_eq_false_iff_eq.mpr c12
      clear c12
      replace H := Option.bind_eq_some_iff.mp H
      obtain ⟨t231, A130, H⟩ := H
      replace H : (some t231) = some r := H
      have A13 := Aside0.mk A130
      clear A130
      obtain rfl := Option.some.inj H
      obtain ⟨Ao14, co14, eo14⟩ := Kd.R_slice HO_7.out
      subst eo14
      go_wp2_with (first | (go_at_call 13; (with_reducible refine (quittancelaw11_head.calls kj4  t231 _ (Tab.b HTab (by repeat (first | (with_reducible first | exact HB.out | apply below_alloc | apply pw_below_drewN | apply below_drew1) | exact HB.out))) A13.out).mono ?_); rintro e w15 ⟨rfl, hb⟩; have n0_ := Aside0.mk (Kd.R_below (by (with_reducible repeat (first | apply Kd.R_alloc | apply Kd.R_drewN | apply Kd.R_drew)); exact HO_7.out) hb); have n1_ := Aside0.mk (below_step (by repeat (first | (with_reducible first | exact HB.out | apply below_alloc | apply pw_below_drewN | apply below_drew1) | exact HB.out)) hb); clear HO_7; clear HB; have HO_7 := n0_; have HB := n1_; clear n0_ n1_; (try clear hb); (try clear hb2); (try clear hk); (try clear hi)))
      go_ret
      exact ⟨by first | rfl | (simp [errW_none, errW_some] <;> rfl) | (simp [*, errW_none, errW_some] <;> rfl), by repeat (first | (with_reducible first | exact HB.out | apply below_alloc | apply pw_below_drewN | apply below_drew1) | exact HB.out)⟩
     ·rw [if_neg c12] at H
      have c12b0 : ((t226.length : Int) == 0) = false := beq_eq_false_iff_ne.mpr c12
      have c12b1 : ((t226.length : Int) != 0) = true := bne_iff_ne.mpr c12
      have c12b2 : ¬ (t226 = []) := fun h_ => c12 (by rw [h_]; rfl)
      obtain rfl := Option.some.inj H
      obtain ⟨Ao16, co16, eo16⟩ := Kd.R_slice HO_7.out
      subst eo16
      go_wp2
      go_ret
      exact ⟨by first | rfl | (simp [errW_none, errW_some] <;> rfl) | (simp [*, errW_none, errW_some] <;> rfl), by repeat (first | (with_reducible first | exact HB.out | apply below_alloc | apply pw_below_drewN | apply below_drew1) | exact HB.out)⟩
   ·replace c8 := Bool.eq_false_iff.mpr c8
    subst c8
    have H1 : (quittancelaw11_ProrateTerm.l0 kj4 a0 a1 a2 t226 0 0) = some r := by rw [if_neg (show ¬ (false = true) by decide)] at H; exact H
    clear H
    have H := H1
    clear H1
    have H' := Aside0.mk H
    clear H
    go_wp2
    go_loopg [9, 10] kj4 (fun kq v9 v10 w' => ∃ (x9_2 : Int) (x10_2 : Int), v9 = .int .i64 x9_2 ∧ v10 = .int .i64 x10_2 ∧ Aside0 (quittancelaw11_ProrateTerm.l0 kq a0 a1 a2 t226 x9_2 x10_2 = some r) ∧ Aside0 (kq ≤ kj4) ∧ Aside0 (Kd.R k51 51 w' w.heap.size (fun _ => True) v228 t226) ∧ Aside0 (Below w.heap.size w w'))
    case atStart => exact ⟨(0), (0), (by first | rfl | (simp; done) | (simp [*]; done)), (by first | rfl | (simp; done) | (simp [*]; done)), H', ⟨Nat.le_refl _⟩, ⟨by (with_reducible repeat (first | apply Kd.R_alloc | apply Kd.R_drewN | apply Kd.R_drew)); exact HO_7.out⟩, ⟨by repeat (first | (with_reducible first | exact HB.out | apply below_alloc | apply pw_below_drewN | apply below_drew1) | exact HB.out)⟩⟩
    case round =>
     clear H'
     try clear c1
     try clear p2
     try clear p6
     try clear c7
     try clear c7b0
     try clear c7b1
     try clear c8
     try clear c9
     try clear c9b0
     try clear c9b1
     try clear c12
     try clear c12b0
     try clear c12b1
     try clear c12b2
     try clear c16
     try clear p2
     try clear p6
     obtain ⟨x9_2, x10_2, rfl, rfl, HA, HK2, HO_7, HB⟩ := hrel
     cases gk with
     | zero => exact absurd HA.out (by simp [quittancelaw11_ProrateTerm.l0])
     | succ k2 =>
      have H := HA.out
      clear HA
      simp only [quittancelaw11_ProrateTerm.l0] at H
      by_cases c17 : x10_2 < (t226.length : Int)
      ·as_aux_lemma =>
       rw [if_pos c17] at H
       have c17b0 : decide (x10_2 < (t226.length : Int)) = true := decide_eq_true c17
       clear c17
       by_cases c18 : 0 ≤ x10_2
       ·as_aux_lemma =>
        rw [if_pos c18] at H
        have c18b0 : decide (0 ≤ x10_2) = true := decide_eq_true c18
        clear c18
        replace H := Option.bind_eq_some_iff.mp H
        obtain ⟨⟨t233, t234, t235⟩, A190, H⟩ := H
        replace H : (if ((rd_T51 t226 x10_2).f1) < 1 then (quittancelaw11_ProrateTerm.j2 k2 a0 a1 a2 t226 x9_2 x10_2 true) else (if ((rd_T51 t226 x10_2).f1) > (wrap64 ((wrap64 (t234 - t233)) + 1)) then (quittancelaw11_ProrateTerm.j2 k2 a0 a1 a2 t226 x9_2 x10_2 true) else (if x10_2 > 0 then (if 0 ≤ (wrap64 (x10_2 - 1)) then (if (wrap64 (x10_2 - 1)) < (t226.length : Int) then (if ((rd_T51 t226 x10_2).f0) = (wrap64 (((rd_T51 t226 (wrap64 (x10_2 - 1))).f0) + 1)) then (if (wrap64 (x10_2 + 1)) < (t226.length : Int) then (quittancelaw11_ProrateTerm.j2 k2 a0 a1 a2 t226 x9_2 x10_2 (((rd_T51 t226 x10_2).f1) != (wrap64 ((wrap64 (t234 - t233)) + 1)))) else (quittancelaw11_ProrateTerm.j2 k2 a0 a1 a2 t226 x9_2 x10_2 false)) else (quittancelaw11_ProrateTerm.j2 k2 a0 a1 a2 t226 x9_2 x10_2 true)) else (none)) else (none)) else (quittancelaw11_ProrateTerm.j2 k2 a0 a1 a2 t226 x9_2 x10_2 false)))) = some r := H
        have A19 := Aside0.mk A190
        clear A190
        have HC20 := Aside0.mk H
        clear H
        obtain ⟨Ao21, co21, eo21⟩ := Kd.R_slice HO_7.out
        subst eo21
        have p232 : 0 ≤ (x10_2 : Int) := of_decide_eq_true (by first | (with_reducible assumption) | assumption)
        have q232 : x10_2 < (t226.length : Int) := of_decide_eq_true (by first | (with_reducible assumption) | assumption)
        obtain ⟨ad232, e232, hx232_0, hx232_1⟩ := at_T51 (Kd.R_reads' HO_7.out).2.2 x10_2 p232 q232
        cases e232
        replace p232 := eq_true p232
        replace q232 := eq_true q232
        go_upto_region 9 with (first | ((with_reducible refine gate_callee (f := 20) rfl ?_); refine goesL_ (some 58) rfl rfl Tryd.func20 (by kernel_rfl) rfl #[.int .i64 ((rd_T51 t226 x10_2).f0)] rfl (by (try simp only [List.map_toArray, List.map_cons, List.map_nil]); first | done | rfl | (simp only [List.length_drop, List.length_take]; rfl)) ?_; (with_reducible refine (quittanceref08_DaysB.calls ((rd_T51 t226 x10_2).f0) t233 t234 t235 _ A19.out).mono ?_); rintro e w22 ⟨rfl, hb⟩; refine ⟨_, rfl, ?_⟩; have n0_ := Aside0.mk (Kd.R_below (by (with_reducible repeat (first | apply Kd.R_alloc | apply Kd.R_drewN | apply Kd.R_drew)); exact HO_7.out) hb); have n1_ := Aside0.mk (below_step (by repeat (first | (with_reducible first | exact HB.out | apply below_alloc | apply pw_below_drewN | apply below_drew1) | exact HB.out)) hb); clear HO_7; clear HB; have HO_7 := n0_; have HB := n1_; clear n0_ n1_; (try clear hb); (try clear hb2); (try clear hk); (try clear hi)))
        (try simp only [Act.put, List.setIfInBounds_toArray, List.set_cons_zero, List.set_cons_succ])
        go_cut [121] (fun v121 wc => ∃ (kq : Nat) (x121_19 : Bool), v121 = .bool x121_19 ∧ Aside0 (quittancelaw11_ProrateTerm.j2 kq a0 a1 a2 t226 x9_2 x10_2 x121_19 = some r) ∧ Aside0 (kq ≤ k2) ∧ Aside0 (Kd.R k51 51 wc w.heap.size (fun _ => True) (.slice (some ad232) t226.length co21) t226) ∧ Aside0 (Below w.heap.size w wc))
        case first =>
         have H := HC20.out
         clear HC20
         by_cases c23 : ((rd_T51 t226 x10_2).f1) < 1
         ·as_aux_lemma =>
          rw [if_pos c23] at H
          have c23b0 : decide (((rd_T51 t226 x10_2).f1) < 1) = true := decide_eq_true c23
          clear c23
          (first | rw [c23b0] | (simp only [i64_w, i32_w]; rw [c23b0]) | skip)
          have H' := Aside0.mk H
          clear H
          try go_wp2
          have n0_ := Aside0.mk (Kd.R_drew HO_7.out)
          have n1_ := Aside0.mk (below_drew1 HB.out)
          clear HO_7
          clear HB
          have HO_7 := n0_
          have HB := n1_
          clear n0_ n1_
          have p236 : 0 ≤ (x10_2 : Int) := of_decide_eq_true (by first | (with_reducible assumption) | assumption)
          have q236 : x10_2 < (t226.length : Int) := of_decide_eq_true (by first | (with_reducible assumption) | assumption)
          obtain ⟨ad236, e236, hx236_0, hx236_1⟩ := at_T51 (Kd.R_reads' HO_7.out).2.2 x10_2 p236 q236
          obtain rfl : ad232 = ad236 := (by injection e236)
          replace p236 := eq_true p236
          replace q236 := eq_true q236
          refine start_ (n := 60) (S := fun w' => w'.cell? (ad232.add ((x10_2).toNat * 2)) = some (.int .i64 ((rd_T51 t226 x10_2).f0)) ∧ w'.cell? ⟨(ad232.add ((x10_2).toNat * 2)).block, (ad232.add ((x10_2).toNat * 2)).off + 1, none⟩ = some (.int .i64 ((rd_T51 t226 x10_2).f1))) (ds := []) qa0 (by kernel_rfl) rfl rfl ⟨hx236_0, hx236_1⟩ (fun hHeld => ?_); refine with_tabW quittancelaw11_ProrateTerm.tab9 quittancelaw11_ProrateTerm.bits9 (fun HT_ HW_ => ?_)
          generalize w22.drew = w24 at HO_7 HB hx236_0 hx236_1 hHeld ⊢
          refine pure_ (i := 0) (N := some 62) (v := ?_) (a' := ?_) qa1 rfl rfl (any_of HT_.out (by kernel_rfl)) (fun _ _ _ h => h) (Or.inl ⟨by rfl, ?_⟩) ?_ ?_; rotate_left
          ·intro w'; go_simp; with_reducible rfl
          rotate_left
          ·simp only [Act.put, qax, qay, qaz, i64_w, i32_w]; rfl
          refine pure_ (i := 1) (N := some 63) (v := ?_) (a' := ?_) qa2 rfl rfl (any_of HT_.out (by kernel_rfl)) (fun _ _ _ h => h) (Or.inl ⟨by rfl, ?_⟩) ?_ ?_; rotate_left
          ·intro w'; go_simp; with_reducible rfl
          rotate_left
          ·simp only [Act.put, qax, qay, qaz, i64_w, i32_w]; rfl
          refine pure_ (i := 2) (N := some 64) (v := ?_) (a' := ?_) qa3 rfl rfl (any_of HT_.out (by kernel_rfl)) (fun _ _ _ h => h) (Or.inl ⟨by rfl, ?_⟩) ?_ ?_; rotate_left
          ·intro w'; go_simp; with_reducible rfl
          rotate_left
          ·simp only [Act.put, qax, qay, qaz, i64_w, i32_w]; rfl
          refine pure_ (i := 3) (N := some 65) (v := ?_) (a' := ?_) qa4 rfl rfl (any_of HT_.out (by kernel_rfl)) (fun _ _ _ h => h) (Or.inl ⟨by rfl, ?_⟩) ?_ ?_; rotate_left
          ·intro w'; go_simp; with_reducible rfl
          rotate_left
          ·simp only [Act.put, qax, qay, qaz, i64_w, i32_w]; rfl
          refine take_ (i := 4) (N := some 66) (v := ?_) (a' := ?_) qa5 rfl rfl (take_ofW HT_.out HW_.out (by kernel_rfl)) (fun _ _ _ h => h) (Or.inl ⟨by rfl, ?_⟩) hHeld ?_ ?_; rotate_left
          ·rintro w' ⟨s0, s1⟩; go_simp; with_reducible rfl
          rotate_left
          ·simp only [Act.put, qax, qay, qaz, i64_w, i32_w]; rfl
          refine pure_ (i := 5) (N := some 67) (v := ?_) (a' := ?_) qa6 rfl rfl (any_of HT_.out (by kernel_rfl)) (fun _ _ _ h => h) (Or.inl ⟨by rfl, ?_⟩) ?_ ?_; rotate_left
          ·intro w'; go_simp; with_reducible rfl
          rotate_left
          ·simp only [Act.put, qax, qay, qaz, i64_w, i32_w]; rfl
          refine pure_ (i := 6) (N := some 68) (v := ?_) (a' := ?_) qa7 rfl rfl (any_of HT_.out (by kernel_rfl)) (fun _ _ _ h => h) (Or.inl ⟨by rfl, ?_⟩) ?_ ?_; rotate_left
          ·intro w'; go_simp; with_reducible rfl
          rotate_left
          ·simp only [Act.put, qax, qay, qaz, i64_w, i32_w]; rfl
          refine pure_ (i := 7) (N := some 69) (v := undef) (a' := ?_) qa8 rfl rfl (any_of HT_.out (by kernel_rfl)) (fun _ _ _ h => h) (Or.inr ⟨by rfl, rfl⟩) ?_ ?_; rotate_left
          ·simp only [Act.put, qax, qay, qaz, i64_w, i32_w]; rfl
          refine pure_ (i := 8) (N := some 70) (v := undef) (a' := ?_) qa9 rfl rfl (any_of HT_.out (by kernel_rfl)) (fun _ _ _ h => h) (Or.inr ⟨by rfl, rfl⟩) ?_ ?_; rotate_left
          ·simp only [Act.put, qax, qay, qaz, i64_w, i32_w]; rfl
          refine pure_ (i := 9) (N := some 71) (v := undef) (a' := ?_) qa10 rfl rfl (any_of HT_.out (by kernel_rfl)) (fun _ _ _ h => h) (Or.inr ⟨by rfl, rfl⟩) ?_ ?_; rotate_left
          ·simp only [Act.put, qax, qay, qaz, i64_w, i32_w]; rfl
          refine pure_ (i := 10) (N := some 72) (v := undef) (a' := ?_) qa11 rfl rfl (any_of HT_.out (by kernel_rfl)) (fun _ _ _ h => h) (Or.inr ⟨by rfl, rfl⟩) ?_ ?_; rotate_left
          ·simp only [Act.put, qax, qay, qaz, i64_w, i32_w]; rfl
          refine pure_ (i := 11) (N := some 73) (v := undef) (a' := ?_) qa12 rfl rfl (any_of HT_.out (by kernel_rfl)) (fun _ _ _ h => h) (Or.inr ⟨by rfl, rfl⟩) ?_ ?_; rotate_left
          ·simp only [Act.put, qax, qay, qaz, i64_w, i32_w]; rfl
          refine pure_ (i := 12) (N := some 74) (v := undef) (a' := ?_) qa13 rfl rfl (any_of HT_.out (by kernel_rfl)) (fun _ _ _ h => h) (Or.inr ⟨by rfl, rfl⟩) ?_ ?_; rotate_left
          ·simp only [Act.put, qax, qay, qaz, i64_w, i32_w]; rfl
          refine pure_ (i := 13) (N := some 75) (v := undef) (a' := ?_) qa14 rfl rfl (any_of HT_.out (by kernel_rfl)) (fun _ _ _ h => h) (Or.inr ⟨by rfl, rfl⟩) ?_ ?_; rotate_left
          ·simp only [Act.put, qax, qay, qaz, i64_w, i32_w]; rfl
          refine pure_ (i := 14) (N := some 76) (v := undef) (a' := ?_) qa15 rfl rfl (any_of HT_.out (by kernel_rfl)) (fun _ _ _ h => h) (Or.inr ⟨by rfl, rfl⟩) ?_ ?_; rotate_left
          ·simp only [Act.put, qax, qay, qaz, i64_w, i32_w]; rfl
          refine pure_ (i := 15) (N := some 77) (v := undef) (a' := ?_) qa16 rfl rfl (any_of HT_.out (by kernel_rfl)) (fun _ _ _ h => h) (Or.inr ⟨by rfl, rfl⟩) ?_ ?_; rotate_left
          ·simp only [Act.put, qax, qay, qaz, i64_w, i32_w]; rfl
          refine pure_ (i := 16) (N := some 78) (v := undef) (a' := ?_) qa17 rfl rfl (any_of HT_.out (by kernel_rfl)) (fun _ _ _ h => h) (Or.inr ⟨by rfl, rfl⟩) ?_ ?_; rotate_left
          ·simp only [Act.put, qax, qay, qaz, i64_w, i32_w]; rfl
          refine pure_ (i := 17) (N := some 79) (v := ?_) (a' := ?_) qa18 rfl rfl (any_of HT_.out (by kernel_rfl)) (fun _ _ _ h => h) (Or.inl ⟨by rfl, ?_⟩) ?_ ?_; rotate_left
          ·intro w'; go_simp; with_reducible rfl
          rotate_left
          ·simp only [Act.put, qax, qay, qaz, i64_w, i32_w]; rfl
          refine pure_ (i := 18) (N := some 80) (v := ?_) (a' := ?_) qa19 rfl rfl (any_of HT_.out (by kernel_rfl)) (fun _ _ _ h => h) (Or.inl ⟨by rfl, ?_⟩) ?_ ?_; rotate_left
          ·intro w'; go_simp; with_reducible rfl
          rotate_left
          ·simp only [Act.put, qax, qay, qaz, i64_w, i32_w]; rfl
          refine pure_ (i := 19) (N := some 81) (v := undef) (a' := ?_) qa20 rfl rfl (any_of HT_.out (by kernel_rfl)) (fun _ _ _ h => h) (Or.inr ⟨by rfl, rfl⟩) ?_ ?_; rotate_left
          ·simp only [Act.put, qax, qay, qaz, i64_w, i32_w]; rfl
          refine pure_ (i := 20) (N := some 82) (v := undef) (a' := ?_) qa21 rfl rfl (any_of HT_.out (by kernel_rfl)) (fun _ _ _ h => h) (Or.inr ⟨by rfl, rfl⟩) ?_ ?_; rotate_left
          ·simp only [Act.put, qax, qay, qaz, i64_w, i32_w]; rfl
          refine pure_ (i := 21) (N := some 83) (v := undef) (a' := ?_) qa22 rfl rfl (any_of HT_.out (by kernel_rfl)) (fun _ _ _ h => h) (Or.inr ⟨by rfl, rfl⟩) ?_ ?_; rotate_left
          ·simp only [Act.put, qax, qay, qaz, i64_w, i32_w]; rfl
          refine pure_ (i := 22) (N := some 84) (v := undef) (a' := ?_) qa23 rfl rfl (any_of HT_.out (by kernel_rfl)) (fun _ _ _ h => h) (Or.inr ⟨by rfl, rfl⟩) ?_ ?_; rotate_left
          ·simp only [Act.put, qax, qay, qaz, i64_w, i32_w]; rfl
          refine pure_ (i := 23) (N := some 85) (v := undef) (a' := ?_) qa24 rfl rfl (any_of HT_.out (by kernel_rfl)) (fun _ _ _ h => h) (Or.inr ⟨by rfl, rfl⟩) ?_ ?_; rotate_left
          ·simp only [Act.put, qax, qay, qaz, i64_w, i32_w]; rfl
          refine pure_ (i := 24) (N := some 86) (v := undef) (a' := ?_) qa25 rfl rfl (any_of HT_.out (by kernel_rfl)) (fun _ _ _ h => h) (Or.inr ⟨by rfl, rfl⟩) ?_ ?_; rotate_left
          ·simp only [Act.put, qax, qay, qaz, i64_w, i32_w]; rfl
          refine pure_ (i := 25) (N := some 87) (v := undef) (a' := ?_) qa26 rfl rfl (any_of HT_.out (by kernel_rfl)) (fun _ _ _ h => h) (Or.inr ⟨by rfl, rfl⟩) ?_ ?_; rotate_left
          ·simp only [Act.put, qax, qay, qaz, i64_w, i32_w]; rfl
          refine pure_ (i := 26) (N := some 88) (v := undef) (a' := ?_) qa27 rfl rfl (any_of HT_.out (by kernel_rfl)) (fun _ _ _ h => h) (Or.inr ⟨by rfl, rfl⟩) ?_ ?_; rotate_left
          ·simp only [Act.put, qax, qay, qaz, i64_w, i32_w]; rfl
          refine pure_ (i := 27) (N := some 89) (v := undef) (a' := ?_) qa28 rfl rfl (any_of HT_.out (by kernel_rfl)) (fun _ _ _ h => h) (Or.inr ⟨by rfl, rfl⟩) ?_ ?_; rotate_left
          ·simp only [Act.put, qax, qay, qaz, i64_w, i32_w]; rfl
          refine pure_ (i := 28) (N := some 90) (v := undef) (a' := ?_) qa29 rfl rfl (any_of HT_.out (by kernel_rfl)) (fun _ _ _ h => h) (Or.inr ⟨by rfl, rfl⟩) ?_ ?_; rotate_left
          ·simp only [Act.put, qax, qay, qaz, i64_w, i32_w]; rfl
          refine pure_ (i := 29) (N := some 91) (v := undef) (a' := ?_) qa30 rfl rfl (any_of HT_.out (by kernel_rfl)) (fun _ _ _ h => h) (Or.inr ⟨by rfl, rfl⟩) ?_ ?_; rotate_left
          ·simp only [Act.put, qax, qay, qaz, i64_w, i32_w]; rfl
          refine pure_ (i := 30) (N := some 92) (v := undef) (a' := ?_) qa31 rfl rfl (any_of HT_.out (by kernel_rfl)) (fun _ _ _ h => h) (Or.inr ⟨by rfl, rfl⟩) ?_ ?_; rotate_left
          ·simp only [Act.put, qax, qay, qaz, i64_w, i32_w]; rfl
          refine pure_ (i := 31) (N := some 93) (v := undef) (a' := ?_) qa32 rfl rfl (any_of HT_.out (by kernel_rfl)) (fun _ _ _ h => h) (Or.inr ⟨by rfl, rfl⟩) ?_ ?_; rotate_left
          ·simp only [Act.put, qax, qay, qaz, i64_w, i32_w]; rfl
          refine pure_ (i := 32) (N := some 94) (v := undef) (a' := ?_) qa33 rfl rfl (any_of HT_.out (by kernel_rfl)) (fun _ _ _ h => h) (Or.inr ⟨by rfl, rfl⟩) ?_ ?_; rotate_left
          ·simp only [Act.put, qax, qay, qaz, i64_w, i32_w]; rfl
          refine pure_ (i := 33) (N := some 95) (v := undef) (a' := ?_) qa34 rfl rfl (any_of HT_.out (by kernel_rfl)) (fun _ _ _ h => h) (Or.inr ⟨by rfl, rfl⟩) ?_ ?_; rotate_left
          ·simp only [Act.put, qax, qay, qaz, i64_w, i32_w]; rfl
          refine pure_ (i := 34) (N := some 96) (v := undef) (a' := ?_) qa35 rfl rfl (any_of HT_.out (by kernel_rfl)) (fun _ _ _ h => h) (Or.inr ⟨by rfl, rfl⟩) ?_ ?_; rotate_left
          ·simp only [Act.put, qax, qay, qaz, i64_w, i32_w]; rfl
          refine pure_ (i := 35) (N := some 97) (v := undef) (a' := ?_) qa36 rfl rfl (any_of HT_.out (by kernel_rfl)) (fun _ _ _ h => h) (Or.inr ⟨by rfl, rfl⟩) ?_ ?_; rotate_left
          ·simp only [Act.put, qax, qay, qaz, i64_w, i32_w]; rfl
          refine pure_ (i := 36) (N := some 98) (v := ?_) (a' := ?_) qa37 rfl rfl (any_of HT_.out (by kernel_rfl)) (fun _ _ _ h => h) (Or.inl ⟨by rfl, ?_⟩) ?_ ?_; rotate_left
          ·intro w'; go_simp; with_reducible rfl
          rotate_left
          ·simp only [Act.put, qax, qay, qaz, i64_w, i32_w]; rfl
          refine pure_ (i := 37) (N := some 99) (v := ?_) (a' := ?_) qa38 rfl rfl (any_of HT_.out (by kernel_rfl)) (fun _ _ _ h => h) (Or.inl ⟨by rfl, ?_⟩) ?_ ?_; rotate_left
          ·intro w'; go_simp; with_reducible rfl
          rotate_left
          ·simp only [Act.put, qax, qay, qaz, i64_w, i32_w]; rfl
          refine pure_ (i := 38) (N := some 100) (v := undef) (a' := ?_) qa39 rfl rfl (any_of HT_.out (by kernel_rfl)) (fun _ _ _ h => h) (Or.inr ⟨by rfl, rfl⟩) ?_ ?_; rotate_left
          ·simp only [Act.put, qax, qay, qaz, i64_w, i32_w]; rfl
          refine pure_ (i := 39) (N := some 101) (v := undef) (a' := ?_) qa40 rfl rfl (any_of HT_.out (by kernel_rfl)) (fun _ _ _ h => h) (Or.inr ⟨by rfl, rfl⟩) ?_ ?_; rotate_left
          ·simp only [Act.put, qax, qay, qaz, i64_w, i32_w]; rfl
          refine pure_ (i := 40) (N := some 102) (v := undef) (a' := ?_) qa41 rfl rfl (any_of HT_.out (by kernel_rfl)) (fun _ _ _ h => h) (Or.inr ⟨by rfl, rfl⟩) ?_ ?_; rotate_left
          ·simp only [Act.put, qax, qay, qaz, i64_w, i32_w]; rfl
          refine pure_ (i := 41) (N := some 103) (v := undef) (a' := ?_) qa42 rfl rfl (any_of HT_.out (by kernel_rfl)) (fun _ _ _ h => h) (Or.inr ⟨by rfl, rfl⟩) ?_ ?_; rotate_left
          ·simp only [Act.put, qax, qay, qaz, i64_w, i32_w]; rfl
          refine pure_ (i := 42) (N := some 104) (v := undef) (a' := ?_) qa43 rfl rfl (any_of HT_.out (by kernel_rfl)) (fun _ _ _ h => h) (Or.inr ⟨by rfl, rfl⟩) ?_ ?_; rotate_left
          ·simp only [Act.put, qax, qay, qaz, i64_w, i32_w]; rfl
          refine pure_ (i := 43) (N := some 105) (v := undef) (a' := ?_) qa44 rfl rfl (any_of HT_.out (by kernel_rfl)) (fun _ _ _ h => h) (Or.inr ⟨by rfl, rfl⟩) ?_ ?_; rotate_left
          ·simp only [Act.put, qax, qay, qaz, i64_w, i32_w]; rfl
          refine pure_ (i := 44) (N := some 106) (v := undef) (a' := ?_) qa45 rfl rfl (any_of HT_.out (by kernel_rfl)) (fun _ _ _ h => h) (Or.inr ⟨by rfl, rfl⟩) ?_ ?_; rotate_left
          ·simp only [Act.put, qax, qay, qaz, i64_w, i32_w]; rfl
          refine pure_ (i := 45) (N := some 107) (v := undef) (a' := ?_) qa46 rfl rfl (any_of HT_.out (by kernel_rfl)) (fun _ _ _ h => h) (Or.inr ⟨by rfl, rfl⟩) ?_ ?_; rotate_left
          ·simp only [Act.put, qax, qay, qaz, i64_w, i32_w]; rfl
          refine pure_ (i := 46) (N := some 108) (v := undef) (a' := ?_) qa47 rfl rfl (any_of HT_.out (by kernel_rfl)) (fun _ _ _ h => h) (Or.inr ⟨by rfl, rfl⟩) ?_ ?_; rotate_left
          ·simp only [Act.put, qax, qay, qaz, i64_w, i32_w]; rfl
          refine pure_ (i := 47) (N := some 109) (v := undef) (a' := ?_) qa48 rfl rfl (any_of HT_.out (by kernel_rfl)) (fun _ _ _ h => h) (Or.inr ⟨by rfl, rfl⟩) ?_ ?_; rotate_left
          ·simp only [Act.put, qax, qay, qaz, i64_w, i32_w]; rfl
          refine pure_ (i := 48) (N := some 110) (v := undef) (a' := ?_) qa49 rfl rfl (any_of HT_.out (by kernel_rfl)) (fun _ _ _ h => h) (Or.inr ⟨by rfl, rfl⟩) ?_ ?_; rotate_left
          ·simp only [Act.put, qax, qay, qaz, i64_w, i32_w]; rfl
          refine pure_ (i := 49) (N := some 111) (v := undef) (a' := ?_) qa50 rfl rfl (any_of HT_.out (by kernel_rfl)) (fun _ _ _ h => h) (Or.inr ⟨by rfl, rfl⟩) ?_ ?_; rotate_left
          ·simp only [Act.put, qax, qay, qaz, i64_w, i32_w]; rfl
          refine pure_ (i := 50) (N := some 112) (v := undef) (a' := ?_) qa51 rfl rfl (any_of HT_.out (by kernel_rfl)) (fun _ _ _ h => h) (Or.inr ⟨by rfl, rfl⟩) ?_ ?_; rotate_left
          ·simp only [Act.put, qax, qay, qaz, i64_w, i32_w]; rfl
          refine pure_ (i := 51) (N := some 113) (v := undef) (a' := ?_) qa52 rfl rfl (any_of HT_.out (by kernel_rfl)) (fun _ _ _ h => h) (Or.inr ⟨by rfl, rfl⟩) ?_ ?_; rotate_left
          ·simp only [Act.put, qax, qay, qaz, i64_w, i32_w]; rfl
          refine pure_ (i := 52) (N := some 114) (v := undef) (a' := ?_) qa53 rfl rfl (any_of HT_.out (by kernel_rfl)) (fun _ _ _ h => h) (Or.inr ⟨by rfl, rfl⟩) ?_ ?_; rotate_left
          ·simp only [Act.put, qax, qay, qaz, i64_w, i32_w]; rfl
          refine pure_ (i := 53) (N := some 115) (v := undef) (a' := ?_) qa54 rfl rfl (any_of HT_.out (by kernel_rfl)) (fun _ _ _ h => h) (Or.inr ⟨by rfl, rfl⟩) ?_ ?_; rotate_left
          ·simp only [Act.put, qax, qay, qaz, i64_w, i32_w]; rfl
          refine pure_ (i := 54) (N := some 116) (v := undef) (a' := ?_) qa55 rfl rfl (any_of HT_.out (by kernel_rfl)) (fun _ _ _ h => h) (Or.inr ⟨by rfl, rfl⟩) ?_ ?_; rotate_left
          ·simp only [Act.put, qax, qay, qaz, i64_w, i32_w]; rfl
          refine pure_ (i := 55) (N := some 117) (v := undef) (a' := ?_) qa56 rfl rfl (any_of HT_.out (by kernel_rfl)) (fun _ _ _ h => h) (Or.inr ⟨by rfl, rfl⟩) ?_ ?_; rotate_left
          ·simp only [Act.put, qax, qay, qaz, i64_w, i32_w]; rfl
          refine pure_ (i := 56) (N := some 118) (v := undef) (a' := ?_) qa57 rfl rfl (any_of HT_.out (by kernel_rfl)) (fun _ _ _ h => h) (Or.inr ⟨by rfl, rfl⟩) ?_ ?_; rotate_left
          ·simp only [Act.put, qax, qay, qaz, i64_w, i32_w]; rfl
          refine pure_ (i := 57) (N := some 119) (v := undef) (a' := ?_) qa58 rfl rfl (any_of HT_.out (by kernel_rfl)) (fun _ _ _ h => h) (Or.inr ⟨by rfl, rfl⟩) ?_ ?_; rotate_left
          ·simp only [Act.put, qax, qay, qaz, i64_w, i32_w]; rfl
          refine pure_ (i := 58) (N := some 120) (v := undef) (a' := ?_) qa59 rfl rfl (any_of HT_.out (by kernel_rfl)) (fun _ _ _ h => h) (Or.inr ⟨by rfl, rfl⟩) ?_ ?_; rotate_left
          ·simp only [Act.put, qax, qay, qaz, i64_w, i32_w]; rfl
          refine pure_ (i := 59) (N := some 121) (v := ?_) (a' := ?_) qa60 rfl rfl (any_of HT_.out (by kernel_rfl)) (fun _ _ _ h => h) (Or.inl ⟨by rfl, ?_⟩) ?_ ?_; rotate_left
          ·intro w'; go_simp; with_reducible rfl
          rotate_left
          ·simp only [Act.put, qax, qay, qaz, i64_w, i32_w]; rfl
          refine done_ (done_of HT_.out (by kernel_rfl)) ?_
          try go_wp2
          go_meet
          case rel => exact ⟨_, (true), (by first | rfl | (simp; done) | (simp [*]; done)), H', ⟨by have := HJ4.out; have := HK2.out; first | omega | exact Nat.le_refl _⟩, ⟨by (with_reducible repeat (first | apply Kd.R_alloc | apply Kd.R_drewN | apply Kd.R_drew)); exact HO_7.out⟩, ⟨by repeat (first | (with_reducible first | exact HB.out | apply below_alloc | apply pw_below_drewN | apply below_drew1) | exact HB.out)⟩⟩
         ·as_aux_lemma =>
          rw [if_neg c23] at H
          have c23b0 : decide (((rd_T51 t226 x10_2).f1) < 1) = false := decide_eq_false c23
          clear c23
          (first | rw [c23b0] | (simp only [i64_w, i32_w]; rw [c23b0]) | skip)
          by_cases c25 : ((rd_T51 t226 x10_2).f1) > (wrap64 ((wrap64 (t234 - t233)) + 1))
          ·as_aux_lemma =>
           rw [if_pos c25] at H
           have c25b0 : decide ((wrap64 ((wrap64 (t234 - t233)) + 1)) < ((rd_T51 t226 x10_2).f1)) = true := decide_eq_true c25
           clear c25
           have H' := Aside0.mk H
           clear H
           try go_wp2
           have n0_ := Aside0.mk (Kd.R_drew HO_7.out)
           have n1_ := Aside0.mk (below_drew1 HB.out)
           clear HO_7
           clear HB
           have HO_7 := n0_
           have HB := n1_
           clear n0_ n1_
           have p236 : 0 ≤ (x10_2 : Int) := of_decide_eq_true (by first | (with_reducible assumption) | assumption)
           have q236 : x10_2 < (t226.length : Int) := of_decide_eq_true (by first | (with_reducible assumption) | assumption)
           obtain ⟨ad236, e236, hx236_0, hx236_1⟩ := at_T51 (Kd.R_reads' HO_7.out).2.2 x10_2 p236 q236
           obtain rfl : ad232 = ad236 := (by injection e236)
           replace p236 := eq_true p236
           replace q236 := eq_true q236
           have p237 : 0 ≤ (x10_2 : Int) := of_decide_eq_true (by first | (with_reducible assumption) | assumption)
           have q237 : x10_2 < (t226.length : Int) := of_decide_eq_true (by first | (with_reducible assumption) | assumption)
           obtain ⟨ad237, e237, hx237_0, hx237_1⟩ := at_T51 (Kd.R_reads' HO_7.out).2.2 x10_2 p237 q237
           obtain rfl : ad232 = ad237 := (by injection e237)
           replace p237 := eq_true p237
           replace q237 := eq_true q237
           refine start_ (n := 60) (S := fun w' => w'.cell? (ad232.add ((x10_2).toNat * 2)) = some (.int .i64 ((rd_T51 t226 x10_2).f0)) ∧ w'.cell? ⟨(ad232.add ((x10_2).toNat * 2)).block, (ad232.add ((x10_2).toNat * 2)).off + 1, none⟩ = some (.int .i64 ((rd_T51 t226 x10_2).f1)) ∧ w'.cell? (ad232.add ((x10_2).toNat * 2)) = some (.int .i64 ((rd_T51 t226 x10_2).f0)) ∧ w'.cell? ⟨(ad232.add ((x10_2).toNat * 2)).block, (ad232.add ((x10_2).toNat * 2)).off + 1, none⟩ = some (.int .i64 ((rd_T51 t226 x10_2).f1))) (ds := []) qa0 (by kernel_rfl) rfl rfl ⟨hx236_0, hx236_1, hx237_0, hx237_1⟩ (fun hHeld => ?_); refine with_tabW quittancelaw11_ProrateTerm.tab9 quittancelaw11_ProrateTerm.bits9 (fun HT_ HW_ => ?_)
           generalize w22.drew = w26 at HO_7 HB hx236_0 hx236_1 hx237_0 hx237_1 hHeld ⊢
           refine pure_ (i := 0) (N := some 62) (v := ?_) (a' := ?_) qa1 rfl rfl (any_of HT_.out (by kernel_rfl)) (fun _ _ _ h => h) (Or.inl ⟨by rfl, ?_⟩) ?_ ?_; rotate_left
           ·intro w'; go_simp; with_reducible rfl
           rotate_left
           ·simp only [Act.put, qax, qay, qaz, i64_w, i32_w]; rfl
           refine pure_ (i := 1) (N := some 63) (v := ?_) (a' := ?_) qa2 rfl rfl (any_of HT_.out (by kernel_rfl)) (fun _ _ _ h => h) (Or.inl ⟨by rfl, ?_⟩) ?_ ?_; rotate_left
           ·intro w'; go_simp; with_reducible rfl
           rotate_left
           ·simp only [Act.put, qax, qay, qaz, i64_w, i32_w]; rfl
           refine pure_ (i := 2) (N := some 64) (v := ?_) (a' := ?_) qa3 rfl rfl (any_of HT_.out (by kernel_rfl)) (fun _ _ _ h => h) (Or.inl ⟨by rfl, ?_⟩) ?_ ?_; rotate_left
           ·intro w'; go_simp; with_reducible rfl
           rotate_left
           ·simp only [Act.put, qax, qay, qaz, i64_w, i32_w]; rfl
           refine pure_ (i := 3) (N := some 65) (v := ?_) (a' := ?_) qa4 rfl rfl (any_of HT_.out (by kernel_rfl)) (fun _ _ _ h => h) (Or.inl ⟨by rfl, ?_⟩) ?_ ?_; rotate_left
           ·intro w'; go_simp; with_reducible rfl
           rotate_left
           ·simp only [Act.put, qax, qay, qaz, i64_w, i32_w]; rfl
           refine take_ (i := 4) (N := some 66) (v := ?_) (a' := ?_) qa5 rfl rfl (take_ofW HT_.out HW_.out (by kernel_rfl)) (fun _ _ _ h => h) (Or.inl ⟨by rfl, ?_⟩) hHeld ?_ ?_; rotate_left
           ·rintro w' ⟨s0, s1, s2, s3⟩; go_simp; with_reducible rfl
           rotate_left
           ·simp only [Act.put, qax, qay, qaz, i64_w, i32_w]; rfl
           refine pure_ (i := 5) (N := some 67) (v := ?_) (a' := ?_) qa6 rfl rfl (any_of HT_.out (by kernel_rfl)) (fun _ _ _ h => h) (Or.inl ⟨by rfl, ?_⟩) ?_ ?_; rotate_left
           ·intro w'; go_simp; with_reducible rfl
           rotate_left
           ·simp only [Act.put, qax, qay, qaz, i64_w, i32_w]; rfl
           refine pure_ (i := 6) (N := some 68) (v := ?_) (a' := ?_) qa7 rfl rfl (any_of HT_.out (by kernel_rfl)) (fun _ _ _ h => h) (Or.inl ⟨by rfl, ?_⟩) ?_ ?_; rotate_left
           ·intro w'; go_simp; with_reducible rfl
           rotate_left
           ·simp only [Act.put, qax, qay, qaz, i64_w, i32_w]; rfl
           refine pure_ (i := 7) (N := some 69) (v := ?_) (a' := ?_) qa8 rfl rfl (any_of HT_.out (by kernel_rfl)) (fun _ _ _ h => h) (Or.inl ⟨by rfl, ?_⟩) ?_ ?_; rotate_left
           ·intro w'; go_simp; with_reducible rfl
           rotate_left
           ·simp only [Act.put, qax, qay, qaz, i64_w, i32_w]; rfl
           refine pure_ (i := 8) (N := some 70) (v := ?_) (a' := ?_) qa9 rfl rfl (any_of HT_.out (by kernel_rfl)) (fun _ _ _ h => h) (Or.inl ⟨by rfl, ?_⟩) ?_ ?_; rotate_left
           ·intro w'; go_simp; with_reducible rfl
           rotate_left
           ·simp only [Act.put, qax, qay, qaz, i64_w, i32_w]; rfl
           refine pure_ (i := 9) (N := some 71) (v := ?_) (a' := ?_) qa10 rfl rfl (any_of HT_.out (by kernel_rfl)) (fun _ _ _ h => h) (Or.inl ⟨by rfl, ?_⟩) ?_ ?_; rotate_left
           ·intro w'; go_simp; with_reducible rfl
           rotate_left
           ·simp only [Act.put, qax, qay, qaz, i64_w, i32_w]; rfl
           refine pure_ (i := 10) (N := some 72) (v := ?_) (a' := ?_) qa11 rfl rfl (any_of HT_.out (by kernel_rfl)) (fun _ _ _ h => h) (Or.inl ⟨by rfl, ?_⟩) ?_ ?_; rotate_left
           ·intro w'; go_simp; with_reducible rfl
           rotate_left
           ·simp only [Act.put, qax, qay, qaz, i64_w, i32_w]; rfl
           refine pure_ (i := 12) (N := some 74) (v := ?_) (a' := ?_) qa61 rfl rfl (any_of HT_.out (by kernel_rfl)) (fun _ _ _ h => h) (Or.inl ⟨by rfl, ?_⟩) ?_ ?_; rotate_left
           ·intro w'; go_simp; with_reducible rfl
           rotate_left
           ·simp only [Act.put, qax, qay, qaz, i64_w, i32_w]; rfl
           refine pure_ (i := 13) (N := some 75) (v := ?_) (a' := ?_) qa62 rfl rfl (any_of HT_.out (by kernel_rfl)) (fun _ _ _ h => h) (Or.inl ⟨by rfl, ?_⟩) ?_ ?_; rotate_left
           ·intro w'; go_simp; with_reducible rfl
           rotate_left
           ·simp only [Act.put, qax, qay, qaz, i64_w, i32_w]; rfl
           refine pure_ (i := 14) (N := some 76) (v := ?_) (a' := ?_) qa63 rfl rfl (any_of HT_.out (by kernel_rfl)) (fun _ _ _ h => h) (Or.inl ⟨by rfl, ?_⟩) ?_ ?_; rotate_left
           ·intro w'; go_simp; with_reducible rfl
           rotate_left
           ·simp only [Act.put, qax, qay, qaz, i64_w, i32_w]; rfl
           refine pure_ (i := 15) (N := some 77) (v := ?_) (a' := ?_) qa64 rfl rfl (any_of HT_.out (by kernel_rfl)) (fun _ _ _ h => h) (Or.inl ⟨by rfl, ?_⟩) ?_ ?_; rotate_left
           ·intro w'; go_simp; with_reducible rfl
           rotate_left
           ·simp only [Act.put, qax, qay, qaz, i64_w, i32_w]; rfl
           refine take_ (i := 11) (N := some 73) (v := ?_) (a' := ?_) qa16 rfl rfl (take_ofW HT_.out HW_.out (by kernel_rfl)) (fun _ _ _ h => h) (Or.inl ⟨by rfl, ?_⟩) hHeld ?_ ?_; rotate_left
           ·rintro w' ⟨s0, s1, s2, s3⟩; go_simp; with_reducible rfl
           rotate_left
           ·simp only [Act.put, qax, qay, qaz, i64_w, i32_w]; rfl
           refine pure_ (i := 16) (N := some 78) (v := ?_) (a' := ?_) qa17 rfl rfl (any_of HT_.out (by kernel_rfl)) (fun _ _ _ h => h) (Or.inl ⟨by rfl, ?_⟩) ?_ ?_; rotate_left
           ·intro w'; go_simp; with_reducible rfl
           rotate_left
           ·simp only [Act.put, qax, qay, qaz, i64_w, i32_w]; rfl
           refine pure_ (i := 17) (N := some 79) (v := ?_) (a' := ?_) qa18 rfl rfl (any_of HT_.out (by kernel_rfl)) (fun _ _ _ h => h) (Or.inl ⟨by rfl, ?_⟩) ?_ ?_; rotate_left
           ·intro w'; go_simp; with_reducible rfl
           rotate_left
           ·simp only [Act.put, qax, qay, qaz, i64_w, i32_w]; rfl
           refine pure_ (i := 18) (N := some 80) (v := ?_) (a' := ?_) qa19 rfl rfl (any_of HT_.out (by kernel_rfl)) (fun _ _ _ h => h) (Or.inl ⟨by rfl, ?_⟩) ?_ ?_; rotate_left
           ·intro w'; go_simp; with_reducible rfl
           rotate_left
           ·simp only [Act.put, qax, qay, qaz, i64_w, i32_w]; rfl
           refine pure_ (i := 19) (N := some 81) (v := undef) (a' := ?_) qa20 rfl rfl (any_of HT_.out (by kernel_rfl)) (fun _ _ _ h => h) (Or.inr ⟨by rfl, rfl⟩) ?_ ?_; rotate_left
           ·simp only [Act.put, qax, qay, qaz, i64_w, i32_w]; rfl
           refine pure_ (i := 20) (N := some 82) (v := undef) (a' := ?_) qa21 rfl rfl (any_of HT_.out (by kernel_rfl)) (fun _ _ _ h => h) (Or.inr ⟨by rfl, rfl⟩) ?_ ?_; rotate_left
           ·simp only [Act.put, qax, qay, qaz, i64_w, i32_w]; rfl
           refine pure_ (i := 21) (N := some 83) (v := undef) (a' := ?_) qa22 rfl rfl (any_of HT_.out (by kernel_rfl)) (fun _ _ _ h => h) (Or.inr ⟨by rfl, rfl⟩) ?_ ?_; rotate_left
           ·simp only [Act.put, qax, qay, qaz, i64_w, i32_w]; rfl
           refine pure_ (i := 22) (N := some 84) (v := undef) (a' := ?_) qa23 rfl rfl (any_of HT_.out (by kernel_rfl)) (fun _ _ _ h => h) (Or.inr ⟨by rfl, rfl⟩) ?_ ?_; rotate_left
           ·simp only [Act.put, qax, qay, qaz, i64_w, i32_w]; rfl
           refine pure_ (i := 23) (N := some 85) (v := undef) (a' := ?_) qa24 rfl rfl (any_of HT_.out (by kernel_rfl)) (fun _ _ _ h => h) (Or.inr ⟨by rfl, rfl⟩) ?_ ?_; rotate_left
           ·simp only [Act.put, qax, qay, qaz, i64_w, i32_w]; rfl
           refine pure_ (i := 24) (N := some 86) (v := undef) (a' := ?_) qa25 rfl rfl (any_of HT_.out (by kernel_rfl)) (fun _ _ _ h => h) (Or.inr ⟨by rfl, rfl⟩) ?_ ?_; rotate_left
           ·simp only [Act.put, qax, qay, qaz, i64_w, i32_w]; rfl
           refine pure_ (i := 25) (N := some 87) (v := undef) (a' := ?_) qa26 rfl rfl (any_of HT_.out (by kernel_rfl)) (fun _ _ _ h => h) (Or.inr ⟨by rfl, rfl⟩) ?_ ?_; rotate_left
           ·simp only [Act.put, qax, qay, qaz, i64_w, i32_w]; rfl
           refine pure_ (i := 26) (N := some 88) (v := undef) (a' := ?_) qa27 rfl rfl (any_of HT_.out (by kernel_rfl)) (fun _ _ _ h => h) (Or.inr ⟨by rfl, rfl⟩) ?_ ?_; rotate_left
           ·simp only [Act.put, qax, qay, qaz, i64_w, i32_w]; rfl
           refine pure_ (i := 27) (N := some 89) (v := undef) (a' := ?_) qa28 rfl rfl (any_of HT_.out (by kernel_rfl)) (fun _ _ _ h => h) (Or.inr ⟨by rfl, rfl⟩) ?_ ?_; rotate_left
           ·simp only [Act.put, qax, qay, qaz, i64_w, i32_w]; rfl
           refine pure_ (i := 28) (N := some 90) (v := undef) (a' := ?_) qa29 rfl rfl (any_of HT_.out (by kernel_rfl)) (fun _ _ _ h => h) (Or.inr ⟨by rfl, rfl⟩) ?_ ?_; rotate_left
           ·simp only [Act.put, qax, qay, qaz, i64_w, i32_w]; rfl
           refine pure_ (i := 29) (N := some 91) (v := undef) (a' := ?_) qa30 rfl rfl (any_of HT_.out (by kernel_rfl)) (fun _ _ _ h => h) (Or.inr ⟨by rfl, rfl⟩) ?_ ?_; rotate_left
           ·simp only [Act.put, qax, qay, qaz, i64_w, i32_w]; rfl
           refine pure_ (i := 30) (N := some 92) (v := undef) (a' := ?_) qa31 rfl rfl (any_of HT_.out (by kernel_rfl)) (fun _ _ _ h => h) (Or.inr ⟨by rfl, rfl⟩) ?_ ?_; rotate_left
           ·simp only [Act.put, qax, qay, qaz, i64_w, i32_w]; rfl
           refine pure_ (i := 31) (N := some 93) (v := undef) (a' := ?_) qa32 rfl rfl (any_of HT_.out (by kernel_rfl)) (fun _ _ _ h => h) (Or.inr ⟨by rfl, rfl⟩) ?_ ?_; rotate_left
           ·simp only [Act.put, qax, qay, qaz, i64_w, i32_w]; rfl
           refine pure_ (i := 32) (N := some 94) (v := undef) (a' := ?_) qa33 rfl rfl (any_of HT_.out (by kernel_rfl)) (fun _ _ _ h => h) (Or.inr ⟨by rfl, rfl⟩) ?_ ?_; rotate_left
           ·simp only [Act.put, qax, qay, qaz, i64_w, i32_w]; rfl
           refine pure_ (i := 33) (N := some 95) (v := undef) (a' := ?_) qa34 rfl rfl (any_of HT_.out (by kernel_rfl)) (fun _ _ _ h => h) (Or.inr ⟨by rfl, rfl⟩) ?_ ?_; rotate_left
           ·simp only [Act.put, qax, qay, qaz, i64_w, i32_w]; rfl
           refine pure_ (i := 34) (N := some 96) (v := undef) (a' := ?_) qa35 rfl rfl (any_of HT_.out (by kernel_rfl)) (fun _ _ _ h => h) (Or.inr ⟨by rfl, rfl⟩) ?_ ?_; rotate_left
           ·simp only [Act.put, qax, qay, qaz, i64_w, i32_w]; rfl
           refine pure_ (i := 35) (N := some 97) (v := undef) (a' := ?_) qa36 rfl rfl (any_of HT_.out (by kernel_rfl)) (fun _ _ _ h => h) (Or.inr ⟨by rfl, rfl⟩) ?_ ?_; rotate_left
           ·simp only [Act.put, qax, qay, qaz, i64_w, i32_w]; rfl
           refine pure_ (i := 36) (N := some 98) (v := ?_) (a' := ?_) qa37 rfl rfl (any_of HT_.out (by kernel_rfl)) (fun _ _ _ h => h) (Or.inl ⟨by rfl, ?_⟩) ?_ ?_; rotate_left
           ·intro w'; go_simp; with_reducible rfl
           rotate_left
           ·simp only [Act.put, qax, qay, qaz, i64_w, i32_w]; rfl
           refine pure_ (i := 37) (N := some 99) (v := ?_) (a' := ?_) qa38 rfl rfl (any_of HT_.out (by kernel_rfl)) (fun _ _ _ h => h) (Or.inl ⟨by rfl, ?_⟩) ?_ ?_; rotate_left
           ·intro w'; go_simp; with_reducible rfl
           rotate_left
           ·simp only [Act.put, qax, qay, qaz, i64_w, i32_w]; rfl
           refine pure_ (i := 38) (N := some 100) (v := undef) (a' := ?_) qa39 rfl rfl (any_of HT_.out (by kernel_rfl)) (fun _ _ _ h => h) (Or.inr ⟨by rfl, rfl⟩) ?_ ?_; rotate_left
           ·simp only [Act.put, qax, qay, qaz, i64_w, i32_w]; rfl
           refine pure_ (i := 39) (N := some 101) (v := undef) (a' := ?_) qa40 rfl rfl (any_of HT_.out (by kernel_rfl)) (fun _ _ _ h => h) (Or.inr ⟨by rfl, rfl⟩) ?_ ?_; rotate_left
           ·simp only [Act.put, qax, qay, qaz, i64_w, i32_w]; rfl
           refine pure_ (i := 40) (N := some 102) (v := undef) (a' := ?_) qa41 rfl rfl (any_of HT_.out (by kernel_rfl)) (fun _ _ _ h => h) (Or.inr ⟨by rfl, rfl⟩) ?_ ?_; rotate_left
           ·simp only [Act.put, qax, qay, qaz, i64_w, i32_w]; rfl
           refine pure_ (i := 41) (N := some 103) (v := undef) (a' := ?_) qa42 rfl rfl (any_of HT_.out (by kernel_rfl)) (fun _ _ _ h => h) (Or.inr ⟨by rfl, rfl⟩) ?_ ?_; rotate_left
           ·simp only [Act.put, qax, qay, qaz, i64_w, i32_w]; rfl
           refine pure_ (i := 42) (N := some 104) (v := undef) (a' := ?_) qa43 rfl rfl (any_of HT_.out (by kernel_rfl)) (fun _ _ _ h => h) (Or.inr ⟨by rfl, rfl⟩) ?_ ?_; rotate_left
           ·simp only [Act.put, qax, qay, qaz, i64_w, i32_w]; rfl
           refine pure_ (i := 43) (N := some 105) (v := undef) (a' := ?_) qa44 rfl rfl (any_of HT_.out (by kernel_rfl)) (fun _ _ _ h => h) (Or.inr ⟨by rfl, rfl⟩) ?_ ?_; rotate_left
           ·simp only [Act.put, qax, qay, qaz, i64_w, i32_w]; rfl
           refine pure_ (i := 44) (N := some 106) (v := undef) (a' := ?_) qa45 rfl rfl (any_of HT_.out (by kernel_rfl)) (fun _ _ _ h => h) (Or.inr ⟨by rfl, rfl⟩) ?_ ?_; rotate_left
           ·simp only [Act.put, qax, qay, qaz, i64_w, i32_w]; rfl
           refine pure_ (i := 45) (N := some 107) (v := undef) (a' := ?_) qa46 rfl rfl (any_of HT_.out (by kernel_rfl)) (fun _ _ _ h => h) (Or.inr ⟨by rfl, rfl⟩) ?_ ?_; rotate_left
           ·simp only [Act.put, qax, qay, qaz, i64_w, i32_w]; rfl
           refine pure_ (i := 46) (N := some 108) (v := undef) (a' := ?_) qa47 rfl rfl (any_of HT_.out (by kernel_rfl)) (fun _ _ _ h => h) (Or.inr ⟨by rfl, rfl⟩) ?_ ?_; rotate_left
           ·simp only [Act.put, qax, qay, qaz, i64_w, i32_w]; rfl
           refine pure_ (i := 47) (N := some 109) (v := undef) (a' := ?_) qa48 rfl rfl (any_of HT_.out (by kernel_rfl)) (fun _ _ _ h => h) (Or.inr ⟨by rfl, rfl⟩) ?_ ?_; rotate_left
           ·simp only [Act.put, qax, qay, qaz, i64_w, i32_w]; rfl
           refine pure_ (i := 48) (N := some 110) (v := undef) (a' := ?_) qa49 rfl rfl (any_of HT_.out (by kernel_rfl)) (fun _ _ _ h => h) (Or.inr ⟨by rfl, rfl⟩) ?_ ?_; rotate_left
           ·simp only [Act.put, qax, qay, qaz, i64_w, i32_w]; rfl
           refine pure_ (i := 49) (N := some 111) (v := undef) (a' := ?_) qa50 rfl rfl (any_of HT_.out (by kernel_rfl)) (fun _ _ _ h => h) (Or.inr ⟨by rfl, rfl⟩) ?_ ?_; rotate_left
           ·simp only [Act.put, qax, qay, qaz, i64_w, i32_w]; rfl
           refine pure_ (i := 50) (N := some 112) (v := undef) (a' := ?_) qa51 rfl rfl (any_of HT_.out (by kernel_rfl)) (fun _ _ _ h => h) (Or.inr ⟨by rfl, rfl⟩) ?_ ?_; rotate_left
           ·simp only [Act.put, qax, qay, qaz, i64_w, i32_w]; rfl
           refine pure_ (i := 51) (N := some 113) (v := undef) (a' := ?_) qa52 rfl rfl (any_of HT_.out (by kernel_rfl)) (fun _ _ _ h => h) (Or.inr ⟨by rfl, rfl⟩) ?_ ?_; rotate_left
           ·simp only [Act.put, qax, qay, qaz, i64_w, i32_w]; rfl
           refine pure_ (i := 52) (N := some 114) (v := undef) (a' := ?_) qa53 rfl rfl (any_of HT_.out (by kernel_rfl)) (fun _ _ _ h => h) (Or.inr ⟨by rfl, rfl⟩) ?_ ?_; rotate_left
           ·simp only [Act.put, qax, qay, qaz, i64_w, i32_w]; rfl
           refine pure_ (i := 53) (N := some 115) (v := undef) (a' := ?_) qa54 rfl rfl (any_of HT_.out (by kernel_rfl)) (fun _ _ _ h => h) (Or.inr ⟨by rfl, rfl⟩) ?_ ?_; rotate_left
           ·simp only [Act.put, qax, qay, qaz, i64_w, i32_w]; rfl
           refine pure_ (i := 54) (N := some 116) (v := undef) (a' := ?_) qa55 rfl rfl (any_of HT_.out (by kernel_rfl)) (fun _ _ _ h => h) (Or.inr ⟨by rfl, rfl⟩) ?_ ?_; rotate_left
           ·simp only [Act.put, qax, qay, qaz, i64_w, i32_w]; rfl
           refine pure_ (i := 55) (N := some 117) (v := undef) (a' := ?_) qa56 rfl rfl (any_of HT_.out (by kernel_rfl)) (fun _ _ _ h => h) (Or.inr ⟨by rfl, rfl⟩) ?_ ?_; rotate_left
           ·simp only [Act.put, qax, qay, qaz, i64_w, i32_w]; rfl
           refine pure_ (i := 56) (N := some 118) (v := undef) (a' := ?_) qa57 rfl rfl (any_of HT_.out (by kernel_rfl)) (fun _ _ _ h => h) (Or.inr ⟨by rfl, rfl⟩) ?_ ?_; rotate_left
           ·simp only [Act.put, qax, qay, qaz, i64_w, i32_w]; rfl
           refine pure_ (i := 57) (N := some 119) (v := undef) (a' := ?_) qa58 rfl rfl (any_of HT_.out (by kernel_rfl)) (fun _ _ _ h => h) (Or.inr ⟨by rfl, rfl⟩) ?_ ?_; rotate_left
           ·simp only [Act.put, qax, qay, qaz, i64_w, i32_w]; rfl
           refine pure_ (i := 58) (N := some 120) (v := undef) (a' := ?_) qa59 rfl rfl (any_of HT_.out (by kernel_rfl)) (fun _ _ _ h => h) (Or.inr ⟨by rfl, rfl⟩) ?_ ?_; rotate_left
           ·simp only [Act.put, qax, qay, qaz, i64_w, i32_w]; rfl
           refine pure_ (i := 59) (N := some 121) (v := ?_) (a' := ?_) qa60 rfl rfl (any_of HT_.out (by kernel_rfl)) (fun _ _ _ h => h) (Or.inl ⟨by rfl, ?_⟩) ?_ ?_; rotate_left
           ·intro w'; go_simp; with_reducible rfl
           rotate_left
           ·simp only [Act.put, qax, qay, qaz, i64_w, i32_w]; rfl
           refine done_ (done_of HT_.out (by kernel_rfl)) ?_
           try go_wp2
           go_meet
           case rel => exact ⟨_, (true), (by first | rfl | (simp; done) | (simp [*]; done)), H', ⟨by have := HJ4.out; have := HK2.out; first | omega | exact Nat.le_refl _⟩, ⟨by (with_reducible repeat (first | apply Kd.R_alloc | apply Kd.R_drewN | apply Kd.R_drew)); exact HO_7.out⟩, ⟨by repeat (first | (with_reducible first | exact HB.out | apply below_alloc | apply pw_below_drewN | apply below_drew1) | exact HB.out)⟩⟩
          ·as_aux_lemma =>
           rw [if_neg c25] at H
           have c25b0 : decide ((wrap64 ((wrap64 (t234 - t233)) + 1)) < ((rd_T51 t226 x10_2).f1)) = false := decide_eq_false c25
           clear c25
           by_cases c27 : x10_2 > 0
           ·as_aux_lemma =>
            rw [if_pos c27] at H
            have c27b0 : decide (0 < x10_2) = true := decide_eq_true c27
            clear c27
            obtain ⟨ji28, hji28⟩ : ∃ j_ : Int, (wrap64 (x10_2 - 1)) = j_ := ⟨_, rfl⟩
            replace H : (if 0 ≤ (ji28) then (if (ji28) < (t226.length : Int) then (if ((rd_T51 t226 x10_2).f0) = (wrap64 (((rd_T51 t226 (ji28)).f0) + 1)) then (if (wrap64 (x10_2 + 1)) < (t226.length : Int) then (quittancelaw11_ProrateTerm.j2 k2 a0 a1 a2 t226 x9_2 x10_2 (((rd_T51 t226 x10_2).f1) != (wrap64 ((wrap64 (t234 - t233)) + 1)))) else (quittancelaw11_ProrateTerm.j2 k2 a0 a1 a2 t226 x9_2 x10_2 false)) else (quittancelaw11_ProrateTerm.j2 k2 a0 a1 a2 t226 x9_2 x10_2 true)) else (none)) else (none)) = some r := by first | (rw [hji28] at H; exact H) | (simp only [hji28] at H ⊢; exact H)
            have hji28w : (IntKind.i64.wrap (x10_2 - 1)) = ji28 := (i64_w _).trans hji28
            by_cases c29 : 0 ≤ (ji28)
            ·as_aux_lemma =>
             rw [if_pos c29] at H
             have c29b0 : decide (0 ≤ (ji28)) = true := decide_eq_true c29
             clear c29
             by_cases c30 : (ji28) < (t226.length : Int)
             ·as_aux_lemma =>
              rw [if_pos c30] at H
              have c30b0 : decide ((ji28) < (t226.length : Int)) = true := decide_eq_true c30
              clear c30
              by_cases c31 : ((rd_T51 t226 x10_2).f0) = (wrap64 (((rd_T51 t226 (ji28)).f0) + 1))
              ·as_aux_lemma =>
               rw [if_pos c31] at H
               have c31b0 : (((rd_T51 t226 x10_2).f0) == (wrap64 (((rd_T51 t226 (ji28)).f0) + 1))) = true := beq_iff_eq.mpr c31
               have c31b1 : (((rd_T51 t226 x10_2).f0) != (wrap64 (((rd_T51 t226 (ji28)).f0) + 1))) = false := bne_eq_false_iff_eq.mpr c31
               clear c31
               by_cases c32 : (wrap64 (x10_2 + 1)) < (t226.length : Int)
               ·as_aux_lemma =>
                rw [if_pos c32] at H
                have c32b0 : decide ((wrap64 (x10_2 + 1)) < (t226.length : Int)) = true := decide_eq_true c32
                clear c32
                have H' := Aside0.mk H
                clear H
                try go_wp2
                have n0_ := Aside0.mk (Kd.R_drew HO_7.out)
                have n1_ := Aside0.mk (below_drew1 HB.out)
                clear HO_7
                clear HB
                have HO_7 := n0_
                have HB := n1_
                clear n0_ n1_
                have p236 : 0 ≤ (x10_2 : Int) := of_decide_eq_true (by first | (with_reducible assumption) | assumption)
                have q236 : x10_2 < (t226.length : Int) := of_decide_eq_true (by first | (with_reducible assumption) | assumption)
                obtain ⟨ad236, e236, hx236_0, hx236_1⟩ := at_T51 (Kd.R_reads' HO_7.out).2.2 x10_2 p236 q236
                obtain rfl : ad232 = ad236 := (by injection e236)
                replace p236 := eq_true p236
                replace q236 := eq_true q236
                have p237 : 0 ≤ (x10_2 : Int) := of_decide_eq_true (by first | (with_reducible assumption) | assumption)
                have q237 : x10_2 < (t226.length : Int) := of_decide_eq_true (by first | (with_reducible assumption) | assumption)
                obtain ⟨ad237, e237, hx237_0, hx237_1⟩ := at_T51 (Kd.R_reads' HO_7.out).2.2 x10_2 p237 q237
                obtain rfl : ad232 = ad237 := (by injection e237)
                replace p237 := eq_true p237
                replace q237 := eq_true q237
                have p238 : 0 ≤ (x10_2 : Int) := of_decide_eq_true (by first | (with_reducible assumption) | assumption)
                have q238 : x10_2 < (t226.length : Int) := of_decide_eq_true (by first | (with_reducible assumption) | assumption)
                obtain ⟨ad238, e238, hx238_0, hx238_1⟩ := at_T51 (Kd.R_reads' HO_7.out).2.2 x10_2 p238 q238
                obtain rfl : ad232 = ad238 := (by injection e238)
                replace p238 := eq_true p238
                replace q238 := eq_true q238
                have p239 : 0 ≤ ((ji28) : Int) := of_decide_eq_true (by first | (with_reducible assumption) | assumption)
                have q239 : (ji28) < (t226.length : Int) := of_decide_eq_true (by first | (with_reducible assumption) | assumption)
                obtain ⟨ad239, e239, hx239_0, hx239_1⟩ := at_T51 (Kd.R_reads' HO_7.out).2.2 (ji28) p239 q239
                obtain rfl : ad232 = ad239 := (by injection e239)
                replace p239 := eq_true p239
                replace q239 := eq_true q239
                have p240 : 0 ≤ (x10_2 : Int) := of_decide_eq_true (by first | (with_reducible assumption) | assumption)
                have q240 : x10_2 < (t226.length : Int) := of_decide_eq_true (by first | (with_reducible assumption) | assumption)
                obtain ⟨ad240, e240, hx240_0, hx240_1⟩ := at_T51 (Kd.R_reads' HO_7.out).2.2 x10_2 p240 q240
                obtain rfl : ad232 = ad240 := (by injection e240)
                replace p240 := eq_true p240
                replace q240 := eq_true q240
                refine start_ (n := 60) (S := fun w' => w'.cell? (ad232.add ((x10_2).toNat * 2)) = some (.int .i64 ((rd_T51 t226 x10_2).f0)) ∧ w'.cell? ⟨(ad232.add ((x10_2).toNat * 2)).block, (ad232.add ((x10_2).toNat * 2)).off + 1, none⟩ = some (.int .i64 ((rd_T51 t226 x10_2).f1)) ∧ w'.cell? (ad232.add ((x10_2).toNat * 2)) = some (.int .i64 ((rd_T51 t226 x10_2).f0)) ∧ w'.cell? ⟨(ad232.add ((x10_2).toNat * 2)).block, (ad232.add ((x10_2).toNat * 2)).off + 1, none⟩ = some (.int .i64 ((rd_T51 t226 x10_2).f1)) ∧ w'.cell? (ad232.add ((x10_2).toNat * 2)) = some (.int .i64 ((rd_T51 t226 x10_2).f0)) ∧ w'.cell? ⟨(ad232.add ((x10_2).toNat * 2)).block, (ad232.add ((x10_2).toNat * 2)).off + 1, none⟩ = some (.int .i64 ((rd_T51 t226 x10_2).f1)) ∧ w'.cell? (ad232.add (((ji28)).toNat * 2)) = some (.int .i64 ((rd_T51 t226 (ji28)).f0)) ∧ w'.cell? ⟨(ad232.add (((ji28)).toNat * 2)).block, (ad232.add (((ji28)).toNat * 2)).off + 1, none⟩ = some (.int .i64 ((rd_T51 t226 (ji28)).f1)) ∧ w'.cell? (ad232.add ((x10_2).toNat * 2)) = some (.int .i64 ((rd_T51 t226 x10_2).f0)) ∧ w'.cell? ⟨(ad232.add ((x10_2).toNat * 2)).block, (ad232.add ((x10_2).toNat * 2)).off + 1, none⟩ = some (.int .i64 ((rd_T51 t226 x10_2).f1))) (ds := []) qa0 (by kernel_rfl) rfl rfl ⟨hx236_0, hx236_1, hx237_0, hx237_1, hx238_0, hx238_1, hx239_0, hx239_1, hx240_0, hx240_1⟩ (fun hHeld => ?_); refine with_tabW quittancelaw11_ProrateTerm.tab9 quittancelaw11_ProrateTerm.bits9 (fun HT_ HW_ => ?_)
                generalize w22.drew = w33 at HO_7 HB hx236_0 hx236_1 hx237_0 hx237_1 hx238_0 hx238_1 hx239_0 hx239_1 hx240_0 hx240_1 hHeld ⊢
                refine pure_ (i := 0) (N := some 62) (v := ?_) (a' := ?_) qa1 rfl rfl (any_of HT_.out (by kernel_rfl)) (fun _ _ _ h => h) (Or.inl ⟨by rfl, ?_⟩) ?_ ?_; rotate_left
                ·intro w'; go_simp; with_reducible rfl
                rotate_left
                ·simp only [Act.put, qax, qay, qaz, i64_w, i32_w]; rfl
                refine pure_ (i := 1) (N := some 63) (v := ?_) (a' := ?_) qa2 rfl rfl (any_of HT_.out (by kernel_rfl)) (fun _ _ _ h => h) (Or.inl ⟨by rfl, ?_⟩) ?_ ?_; rotate_left
                ·intro w'; go_simp; with_reducible rfl
                rotate_left
                ·simp only [Act.put, qax, qay, qaz, i64_w, i32_w]; rfl
                refine pure_ (i := 2) (N := some 64) (v := ?_) (a' := ?_) qa3 rfl rfl (any_of HT_.out (by kernel_rfl)) (fun _ _ _ h => h) (Or.inl ⟨by rfl, ?_⟩) ?_ ?_; rotate_left
                ·intro w'; go_simp; with_reducible rfl
                rotate_left
                ·simp only [Act.put, qax, qay, qaz, i64_w, i32_w]; rfl
                refine pure_ (i := 3) (N := some 65) (v := ?_) (a' := ?_) qa4 rfl rfl (any_of HT_.out (by kernel_rfl)) (fun _ _ _ h => h) (Or.inl ⟨by rfl, ?_⟩) ?_ ?_; rotate_left
                ·intro w'; go_simp; with_reducible rfl
                rotate_left
                ·simp only [Act.put, qax, qay, qaz, i64_w, i32_w]; rfl
                refine take_ (i := 4) (N := some 66) (v := ?_) (a' := ?_) qa5 rfl rfl (take_ofW HT_.out HW_.out (by kernel_rfl)) (fun _ _ _ h => h) (Or.inl ⟨by rfl, ?_⟩) hHeld ?_ ?_; rotate_left
                ·rintro w' ⟨s0, s1, s2, s3, s4, s5, s6, s7, s8, s9⟩; go_simp; with_reducible rfl
                rotate_left
                ·simp only [Act.put, qax, qay, qaz, i64_w, i32_w]; rfl
                refine pure_ (i := 5) (N := some 67) (v := ?_) (a' := ?_) qa6 rfl rfl (any_of HT_.out (by kernel_rfl)) (fun _ _ _ h => h) (Or.inl ⟨by rfl, ?_⟩) ?_ ?_; rotate_left
                ·intro w'; go_simp; with_reducible rfl
                rotate_left
                ·simp only [Act.put, qax, qay, qaz, i64_w, i32_w]; rfl
                refine pure_ (i := 6) (N := some 68) (v := ?_) (a' := ?_) qa7 rfl rfl (any_of HT_.out (by kernel_rfl)) (fun _ _ _ h => h) (Or.inl ⟨by rfl, ?_⟩) ?_ ?_; rotate_left
                ·intro w'; go_simp; with_reducible rfl
                rotate_left
                ·simp only [Act.put, qax, qay, qaz, i64_w, i32_w]; rfl
                refine pure_ (i := 7) (N := some 69) (v := ?_) (a' := ?_) qa8 rfl rfl (any_of HT_.out (by kernel_rfl)) (fun _ _ _ h => h) (Or.inl ⟨by rfl, ?_⟩) ?_ ?_; rotate_left
                ·intro w'; go_simp; with_reducible rfl
                rotate_left
                ·simp only [Act.put, qax, qay, qaz, i64_w, i32_w]; rfl
                refine pure_ (i := 8) (N := some 70) (v := ?_) (a' := ?_) qa9 rfl rfl (any_of HT_.out (by kernel_rfl)) (fun _ _ _ h => h) (Or.inl ⟨by rfl, ?_⟩) ?_ ?_; rotate_left
                ·intro w'; go_simp; with_reducible rfl
                rotate_left
                ·simp only [Act.put, qax, qay, qaz, i64_w, i32_w]; rfl
                refine pure_ (i := 9) (N := some 71) (v := ?_) (a' := ?_) qa10 rfl rfl (any_of HT_.out (by kernel_rfl)) (fun _ _ _ h => h) (Or.inl ⟨by rfl, ?_⟩) ?_ ?_; rotate_left
                ·intro w'; go_simp; with_reducible rfl
                rotate_left
                ·simp only [Act.put, qax, qay, qaz, i64_w, i32_w]; rfl
                refine pure_ (i := 10) (N := some 72) (v := ?_) (a' := ?_) qa11 rfl rfl (any_of HT_.out (by kernel_rfl)) (fun _ _ _ h => h) (Or.inl ⟨by rfl, ?_⟩) ?_ ?_; rotate_left
                ·intro w'; go_simp; with_reducible rfl
                rotate_left
                ·simp only [Act.put, qax, qay, qaz, i64_w, i32_w]; rfl
                refine pure_ (i := 12) (N := some 74) (v := ?_) (a' := ?_) qa61 rfl rfl (any_of HT_.out (by kernel_rfl)) (fun _ _ _ h => h) (Or.inl ⟨by rfl, ?_⟩) ?_ ?_; rotate_left
                ·intro w'; go_simp; with_reducible rfl
                rotate_left
                ·simp only [Act.put, qax, qay, qaz, i64_w, i32_w]; rfl
                refine pure_ (i := 13) (N := some 75) (v := ?_) (a' := ?_) qa62 rfl rfl (any_of HT_.out (by kernel_rfl)) (fun _ _ _ h => h) (Or.inl ⟨by rfl, ?_⟩) ?_ ?_; rotate_left
                ·intro w'; go_simp; with_reducible rfl
                rotate_left
                ·simp only [Act.put, qax, qay, qaz, i64_w, i32_w]; rfl
                refine pure_ (i := 14) (N := some 76) (v := ?_) (a' := ?_) qa63 rfl rfl (any_of HT_.out (by kernel_rfl)) (fun _ _ _ h => h) (Or.inl ⟨by rfl, ?_⟩) ?_ ?_; rotate_left
                ·intro w'; go_simp; with_reducible rfl
                rotate_left
                ·simp only [Act.put, qax, qay, qaz, i64_w, i32_w]; rfl
                refine pure_ (i := 15) (N := some 77) (v := ?_) (a' := ?_) qa64 rfl rfl (any_of HT_.out (by kernel_rfl)) (fun _ _ _ h => h) (Or.inl ⟨by rfl, ?_⟩) ?_ ?_; rotate_left
                ·intro w'; go_simp; with_reducible rfl
                rotate_left
                ·simp only [Act.put, qax, qay, qaz, i64_w, i32_w]; rfl
                refine take_ (i := 11) (N := some 73) (v := ?_) (a' := ?_) qa16 rfl rfl (take_ofW HT_.out HW_.out (by kernel_rfl)) (fun _ _ _ h => h) (Or.inl ⟨by rfl, ?_⟩) hHeld ?_ ?_; rotate_left
                ·rintro w' ⟨s0, s1, s2, s3, s4, s5, s6, s7, s8, s9⟩; go_simp; with_reducible rfl
                rotate_left
                ·simp only [Act.put, qax, qay, qaz, i64_w, i32_w]; rfl
                refine pure_ (i := 16) (N := some 78) (v := ?_) (a' := ?_) qa17 rfl rfl (any_of HT_.out (by kernel_rfl)) (fun _ _ _ h => h) (Or.inl ⟨by rfl, ?_⟩) ?_ ?_; rotate_left
                ·intro w'; go_simp; with_reducible rfl
                rotate_left
                ·simp only [Act.put, qax, qay, qaz, i64_w, i32_w]; rfl
                refine pure_ (i := 17) (N := some 79) (v := ?_) (a' := ?_) qa18 rfl rfl (any_of HT_.out (by kernel_rfl)) (fun _ _ _ h => h) (Or.inl ⟨by rfl, ?_⟩) ?_ ?_; rotate_left
                ·intro w'; go_simp; with_reducible rfl
                rotate_left
                ·simp only [Act.put, qax, qay, qaz, i64_w, i32_w]; rfl
                refine pure_ (i := 18) (N := some 80) (v := ?_) (a' := ?_) qa19 rfl rfl (any_of HT_.out (by kernel_rfl)) (fun _ _ _ h => h) (Or.inl ⟨by rfl, ?_⟩) ?_ ?_; rotate_left
                ·intro w'; go_simp; with_reducible rfl
                rotate_left
                ·simp only [Act.put, qax, qay, qaz, i64_w, i32_w]; rfl
                refine pure_ (i := 19) (N := some 81) (v := ?_) (a' := ?_) qa20 rfl rfl (any_of HT_.out (by kernel_rfl)) (fun _ _ _ h => h) (Or.inl ⟨by rfl, ?_⟩) ?_ ?_; rotate_left
                ·intro w'; go_simp; with_reducible rfl
                rotate_left
                ·simp only [Act.put, qax, qay, qaz, i64_w, i32_w]; rfl
                refine pure_ (i := 20) (N := some 82) (v := ?_) (a' := ?_) qa21 rfl rfl (any_of HT_.out (by kernel_rfl)) (fun _ _ _ h => h) (Or.inl ⟨by rfl, ?_⟩) ?_ ?_; rotate_left
                ·intro w'; go_simp; with_reducible rfl
                rotate_left
                ·simp only [Act.put, qax, qay, qaz, i64_w, i32_w]; rfl
                refine pure_ (i := 21) (N := some 83) (v := ?_) (a' := ?_) qa22 rfl rfl (any_of HT_.out (by kernel_rfl)) (fun _ _ _ h => h) (Or.inl ⟨by rfl, ?_⟩) ?_ ?_; rotate_left
                ·intro w'; go_simp; with_reducible rfl
                rotate_left
                ·simp only [Act.put, qax, qay, qaz, i64_w, i32_w]; rfl
                refine pure_ (i := 22) (N := some 84) (v := ?_) (a' := ?_) qa23 rfl rfl (any_of HT_.out (by kernel_rfl)) (fun _ _ _ h => h) (Or.inl ⟨by rfl, ?_⟩) ?_ ?_; rotate_left
                ·intro w'; go_simp; with_reducible rfl
                rotate_left
                ·simp only [Act.put, qax, qay, qaz, i64_w, i32_w]; rfl
                refine pure_ (i := 23) (N := some 85) (v := ?_) (a' := ?_) qa24 rfl rfl (any_of HT_.out (by kernel_rfl)) (fun _ _ _ h => h) (Or.inl ⟨by rfl, ?_⟩) ?_ ?_; rotate_left
                ·intro w'; go_simp; with_reducible rfl
                rotate_left
                ·simp only [Act.put, qax, qay, qaz, i64_w, i32_w]; rfl
                refine pure_ (i := 24) (N := some 86) (v := ?_) (a' := ?_) qa25 rfl rfl (any_of HT_.out (by kernel_rfl)) (fun _ _ _ h => h) (Or.inl ⟨by rfl, ?_⟩) ?_ ?_; rotate_left
                ·intro w'; go_simp; with_reducible rfl
                rotate_left
                ·simp only [Act.put, qax, qay, qaz, i64_w, i32_w]; rfl
                refine pure_ (i := 25) (N := some 87) (v := ?_) (a' := ?_) qa26 rfl rfl (any_of HT_.out (by kernel_rfl)) (fun _ _ _ h => h) (Or.inl ⟨by rfl, ?_⟩) ?_ ?_; rotate_left
                ·intro w'; go_simp; with_reducible rfl
                rotate_left
                ·simp only [Act.put, qax, qay, qaz, i64_w, i32_w]; rfl
                refine pure_ (i := 27) (N := some 89) (v := ?_) (a' := ?_) qa65 rfl rfl (any_of HT_.out (by kernel_rfl)) (fun _ _ _ h => h) (Or.inl ⟨by rfl, ?_⟩) ?_ ?_; rotate_left
                ·intro w'; go_simp; with_reducible rfl
                rotate_left
                ·simp only [Act.put, qax, qay, qaz, i64_w, i32_w]; rfl
                refine pure_ (i := 28) (N := some 90) (v := ?_) (a' := ?_) qa66 rfl rfl (any_of HT_.out (by kernel_rfl)) (fun _ _ _ h => h) (Or.inl ⟨by rfl, ?_⟩) ?_ ?_; rotate_left
                ·intro w'; go_simp; with_reducible rfl
                rotate_left
                ·simp only [Act.put, qax, qay, qaz, i64_w, i32_w]; rfl
                refine pure_ (i := 29) (N := some 91) (v := ?_) (a' := ?_) qa67 rfl rfl (any_of HT_.out (by kernel_rfl)) (fun _ _ _ h => h) (Or.inl ⟨by rfl, ?_⟩) ?_ ?_; rotate_left
                ·intro w'; go_simp; with_reducible rfl
                rotate_left
                ·simp only [Act.put, qax, qay, qaz, i64_w, i32_w]; rfl
                refine pure_ (i := 30) (N := some 92) (v := ?_) (a' := ?_) qa68 rfl rfl (any_of HT_.out (by kernel_rfl)) (fun _ _ _ h => h) (Or.inl ⟨by rfl, ?_⟩) ?_ ?_; rotate_left
                ·intro w'; go_simp; with_reducible rfl
                rotate_left
                ·simp only [Act.put, qax, qay, qaz, i64_w, i32_w]; rfl
                refine pure_ (i := 31) (N := some 93) (v := ?_) (a' := ?_) qa69 rfl rfl (any_of HT_.out (by kernel_rfl)) (fun _ _ _ h => h) (Or.inl ⟨by rfl, ?_⟩) ?_ ?_; rotate_left
                ·intro w'; go_simp; with_reducible rfl
                rotate_left
                ·simp only [Act.put, qax, qay, qaz, i64_w, i32_w]; rfl
                refine take_ (i := 26) (N := some 88) (v := ?_) (a' := ?_) qa32 rfl rfl (take_ofW HT_.out HW_.out (by kernel_rfl)) (fun _ _ _ h => h) (Or.inl ⟨by rfl, ?_⟩) hHeld ?_ ?_; rotate_left
                ·rintro w' ⟨s0, s1, s2, s3, s4, s5, s6, s7, s8, s9⟩; go_simp; with_reducible rfl
                rotate_left
                ·simp only [Act.put, qax, qay, qaz, i64_w, i32_w]; rfl
                refine take_ (i := 32) (N := some 94) (v := ?_) (a' := ?_) qa33 rfl rfl (take_ofW HT_.out HW_.out (by kernel_rfl)) (fun _ _ _ h => h) (Or.inl ⟨by rfl, ?_⟩) hHeld ?_ ?_; rotate_left
                ·rintro w' ⟨s0, s1, s2, s3, s4, s5, s6, s7, s8, s9⟩; go_simp; with_reducible rfl
                rotate_left
                ·simp only [Act.put, qax, qay, qaz, i64_w, i32_w]; rfl
                refine pure_ (i := 33) (N := some 95) (v := ?_) (a' := ?_) qa34 rfl rfl (any_of HT_.out (by kernel_rfl)) (fun _ _ _ h => h) (Or.inl ⟨by rfl, ?_⟩) ?_ ?_; rotate_left
                ·intro w'; go_simp; with_reducible rfl
                rotate_left
                ·simp only [Act.put, qax, qay, qaz, i64_w, i32_w]; rfl
                refine pure_ (i := 34) (N := some 96) (v := ?_) (a' := ?_) qa35 rfl rfl (any_of HT_.out (by kernel_rfl)) (fun _ _ _ h => h) (Or.inl ⟨by rfl, ?_⟩) ?_ ?_; rotate_left
                ·intro w'; go_simp; with_reducible rfl
                rotate_left
                ·simp only [Act.put, qax, qay, qaz, i64_w, i32_w]; rfl
                refine pure_ (i := 35) (N := some 97) (v := ?_) (a' := ?_) qa36 rfl rfl (any_of HT_.out (by kernel_rfl)) (fun _ _ _ h => h) (Or.inl ⟨by rfl, ?_⟩) ?_ ?_; rotate_left
                ·intro w'; go_simp; with_reducible rfl
                rotate_left
                ·simp only [Act.put, qax, qay, qaz, i64_w, i32_w]; rfl
                refine pure_ (i := 36) (N := some 98) (v := ?_) (a' := ?_) qa37 rfl rfl (any_of HT_.out (by kernel_rfl)) (fun _ _ _ h => h) (Or.inl ⟨by rfl, ?_⟩) ?_ ?_; rotate_left
                ·intro w'; go_simp; with_reducible rfl
                rotate_left
                ·simp only [Act.put, qax, qay, qaz, i64_w, i32_w]; rfl
                refine pure_ (i := 37) (N := some 99) (v := ?_) (a' := ?_) qa38 rfl rfl (any_of HT_.out (by kernel_rfl)) (fun _ _ _ h => h) (Or.inl ⟨by rfl, ?_⟩) ?_ ?_; rotate_left
                ·intro w'; go_simp; with_reducible rfl
                rotate_left
                ·simp only [Act.put, qax, qay, qaz, i64_w, i32_w]; rfl
                refine pure_ (i := 38) (N := some 100) (v := ?_) (a' := ?_) qa39 rfl rfl (any_of HT_.out (by kernel_rfl)) (fun _ _ _ h => h) (Or.inl ⟨by rfl, ?_⟩) ?_ ?_; rotate_left
                ·intro w'; go_simp; with_reducible rfl
                rotate_left
                ·simp only [Act.put, qax, qay, qaz, i64_w, i32_w]; rfl
                refine pure_ (i := 39) (N := some 101) (v := ?_) (a' := ?_) qa40 rfl rfl (any_of HT_.out (by kernel_rfl)) (fun _ _ _ h => h) (Or.inl ⟨by rfl, ?_⟩) ?_ ?_; rotate_left
                ·intro w'; go_simp; with_reducible rfl
                rotate_left
                ·simp only [Act.put, qax, qay, qaz, i64_w, i32_w]; rfl
                refine pure_ (i := 40) (N := some 102) (v := ?_) (a' := ?_) qa41 rfl rfl (any_of HT_.out (by kernel_rfl)) (fun _ _ _ h => h) (Or.inl ⟨by rfl, ?_⟩) ?_ ?_; rotate_left
                ·intro w'; go_simp; with_reducible rfl
                rotate_left
                ·simp only [Act.put, qax, qay, qaz, i64_w, i32_w]; rfl
                refine pure_ (i := 41) (N := some 103) (v := ?_) (a' := ?_) qa42 rfl rfl (any_of HT_.out (by kernel_rfl)) (fun _ _ _ h => h) (Or.inl ⟨by rfl, ?_⟩) ?_ ?_; rotate_left
                ·intro w'; go_simp; with_reducible rfl
                rotate_left
                ·simp only [Act.put, qax, qay, qaz, i64_w, i32_w]; rfl
                refine pure_ (i := 42) (N := some 104) (v := ?_) (a' := ?_) qa43 rfl rfl (any_of HT_.out (by kernel_rfl)) (fun _ _ _ h => h) (Or.inl ⟨by rfl, ?_⟩) ?_ ?_; rotate_left
                ·intro w'; go_simp; with_reducible rfl
                rotate_left
                ·simp only [Act.put, qax, qay, qaz, i64_w, i32_w]; rfl
                refine pure_ (i := 43) (N := some 105) (v := ?_) (a' := ?_) qa44 rfl rfl (any_of HT_.out (by kernel_rfl)) (fun _ _ _ h => h) (Or.inl ⟨by rfl, ?_⟩) ?_ ?_; rotate_left
                ·intro w'; go_simp; with_reducible rfl
                rotate_left
                ·simp only [Act.put, qax, qay, qaz, i64_w, i32_w]; rfl
                refine pure_ (i := 44) (N := some 106) (v := ?_) (a' := ?_) qa45 rfl rfl (any_of HT_.out (by kernel_rfl)) (fun _ _ _ h => h) (Or.inl ⟨by rfl, ?_⟩) ?_ ?_; rotate_left
                ·intro w'; go_simp; with_reducible rfl
                rotate_left
                ·simp only [Act.put, qax, qay, qaz, i64_w, i32_w]; rfl
                refine pure_ (i := 45) (N := some 107) (v := ?_) (a' := ?_) qa46 rfl rfl (any_of HT_.out (by kernel_rfl)) (fun _ _ _ h => h) (Or.inl ⟨by rfl, ?_⟩) ?_ ?_; rotate_left
                ·intro w'; go_simp; with_reducible rfl
                rotate_left
                ·simp only [Act.put, qax, qay, qaz, i64_w, i32_w]; rfl
                refine pure_ (i := 46) (N := some 108) (v := ?_) (a' := ?_) qa47 rfl rfl (any_of HT_.out (by kernel_rfl)) (fun _ _ _ h => h) (Or.inl ⟨by rfl, ?_⟩) ?_ ?_; rotate_left
                ·intro w'; go_simp; with_reducible rfl
                rotate_left
                ·simp only [Act.put, qax, qay, qaz, i64_w, i32_w]; rfl
                refine pure_ (i := 47) (N := some 109) (v := ?_) (a' := ?_) qa48 rfl rfl (any_of HT_.out (by kernel_rfl)) (fun _ _ _ h => h) (Or.inl ⟨by rfl, ?_⟩) ?_ ?_; rotate_left
                ·intro w'; go_simp; with_reducible rfl
                rotate_left
                ·simp only [Act.put, qax, qay, qaz, i64_w, i32_w]; rfl
                refine pure_ (i := 48) (N := some 110) (v := ?_) (a' := ?_) qa49 rfl rfl (any_of HT_.out (by kernel_rfl)) (fun _ _ _ h => h) (Or.inl ⟨by rfl, ?_⟩) ?_ ?_; rotate_left
                ·intro w'; go_simp; with_reducible rfl
                rotate_left
                ·simp only [Act.put, qax, qay, qaz, i64_w, i32_w]; rfl
                refine pure_ (i := 49) (N := some 111) (v := ?_) (a' := ?_) qa50 rfl rfl (any_of HT_.out (by kernel_rfl)) (fun _ _ _ h => h) (Or.inl ⟨by rfl, ?_⟩) ?_ ?_; rotate_left
                ·intro w'; go_simp; with_reducible rfl
                rotate_left
                ·simp only [Act.put, qax, qay, qaz, i64_w, i32_w]; rfl
                refine pure_ (i := 50) (N := some 112) (v := ?_) (a' := ?_) qa51 rfl rfl (any_of HT_.out (by kernel_rfl)) (fun _ _ _ h => h) (Or.inl ⟨by rfl, ?_⟩) ?_ ?_; rotate_left
                ·intro w'; go_simp; with_reducible rfl
                rotate_left
                ·simp only [Act.put, qax, qay, qaz, i64_w, i32_w]; rfl
                refine pure_ (i := 51) (N := some 113) (v := ?_) (a' := ?_) qa52 rfl rfl (any_of HT_.out (by kernel_rfl)) (fun _ _ _ h => h) (Or.inl ⟨by rfl, ?_⟩) ?_ ?_; rotate_left
                ·intro w'; go_simp; with_reducible rfl
                rotate_left
                ·simp only [Act.put, qax, qay, qaz, i64_w, i32_w]; rfl
                refine pure_ (i := 53) (N := some 115) (v := ?_) (a' := ?_) qa70 rfl rfl (any_of HT_.out (by kernel_rfl)) (fun _ _ _ h => h) (Or.inl ⟨by rfl, ?_⟩) ?_ ?_; rotate_left
                ·intro w'; go_simp; with_reducible rfl
                rotate_left
                ·simp only [Act.put, qax, qay, qaz, i64_w, i32_w]; rfl
                refine pure_ (i := 54) (N := some 116) (v := ?_) (a' := ?_) qa71 rfl rfl (any_of HT_.out (by kernel_rfl)) (fun _ _ _ h => h) (Or.inl ⟨by rfl, ?_⟩) ?_ ?_; rotate_left
                ·intro w'; go_simp; with_reducible rfl
                rotate_left
                ·simp only [Act.put, qax, qay, qaz, i64_w, i32_w]; rfl
                refine pure_ (i := 55) (N := some 117) (v := ?_) (a' := ?_) qa72 rfl rfl (any_of HT_.out (by kernel_rfl)) (fun _ _ _ h => h) (Or.inl ⟨by rfl, ?_⟩) ?_ ?_; rotate_left
                ·intro w'; go_simp; with_reducible rfl
                rotate_left
                ·simp only [Act.put, qax, qay, qaz, i64_w, i32_w]; rfl
                refine pure_ (i := 56) (N := some 118) (v := ?_) (a' := ?_) qa73 rfl rfl (any_of HT_.out (by kernel_rfl)) (fun _ _ _ h => h) (Or.inl ⟨by rfl, ?_⟩) ?_ ?_; rotate_left
                ·intro w'; go_simp; with_reducible rfl
                rotate_left
                ·simp only [Act.put, qax, qay, qaz, i64_w, i32_w]; rfl
                refine take_ (i := 52) (N := some 114) (v := ?_) (a' := ?_) qa57 rfl rfl (take_ofW HT_.out HW_.out (by kernel_rfl)) (fun _ _ _ h => h) (Or.inl ⟨by rfl, ?_⟩) hHeld ?_ ?_; rotate_left
                ·rintro w' ⟨s0, s1, s2, s3, s4, s5, s6, s7, s8, s9⟩; go_simp; with_reducible rfl
                rotate_left
                ·simp only [Act.put, qax, qay, qaz, i64_w, i32_w]; rfl
                refine pure_ (i := 57) (N := some 119) (v := ?_) (a' := ?_) qa58 rfl rfl (any_of HT_.out (by kernel_rfl)) (fun _ _ _ h => h) (Or.inl ⟨by rfl, ?_⟩) ?_ ?_; rotate_left
                ·intro w'; go_simp; with_reducible rfl
                rotate_left
                ·simp only [Act.put, qax, qay, qaz, i64_w, i32_w]; rfl
                refine pure_ (i := 58) (N := some 120) (v := ?_) (a' := ?_) qa59 rfl rfl (any_of HT_.out (by kernel_rfl)) (fun _ _ _ h => h) (Or.inl ⟨by rfl, ?_⟩) ?_ ?_; rotate_left
                ·intro w'; go_simp; with_reducible rfl
                rotate_left
                ·simp only [Act.put, qax, qay, qaz, i64_w, i32_w]; rfl
                refine pure_ (i := 59) (N := some 121) (v := ?_) (a' := ?_) qa60 rfl rfl (any_of HT_.out (by kernel_rfl)) (fun _ _ _ h => h) (Or.inl ⟨by rfl, ?_⟩) ?_ ?_; rotate_left
                ·intro w'; go_simp; with_reducible rfl
                rotate_left
                ·simp only [Act.put, qax, qay, qaz, i64_w, i32_w]; rfl
                refine done_ (done_of HT_.out (by kernel_rfl)) ?_
                try go_wp2
                go_meet
                case rel => exact ⟨_, ((((rd_T51 t226 x10_2).f1) != (wrap64 ((wrap64 (t234 - t233)) + 1)))), (by first | rfl | (simp; done) | (simp [*]; done)), H', ⟨by have := HJ4.out; have := HK2.out; first | omega | exact Nat.le_refl _⟩, ⟨by (with_reducible repeat (first | apply Kd.R_alloc | apply Kd.R_drewN | apply Kd.R_drew)); exact HO_7.out⟩, ⟨by repeat (first | (with_reducible first | exact HB.out | apply below_alloc | apply pw_below_drewN | apply below_drew1) | exact HB.out)⟩⟩
               ·as_aux_lemma =>
                rw [if_neg c32] at H
                have c32b0 : decide ((wrap64 (x10_2 + 1)) < (t226.length : Int)) = false := decide_eq_false c32
                clear c32
                have H' := Aside0.mk H
                clear H
                try go_wp2
                have n0_ := Aside0.mk (Kd.R_drew HO_7.out)
                have n1_ := Aside0.mk (below_drew1 HB.out)
                clear HO_7
                clear HB
                have HO_7 := n0_
                have HB := n1_
                clear n0_ n1_
                have p236 : 0 ≤ (x10_2 : Int) := of_decide_eq_true (by first | (with_reducible assumption) | assumption)
                have q236 : x10_2 < (t226.length : Int) := of_decide_eq_true (by first | (with_reducible assumption) | assumption)
                obtain ⟨ad236, e236, hx236_0, hx236_1⟩ := at_T51 (Kd.R_reads' HO_7.out).2.2 x10_2 p236 q236
                obtain rfl : ad232 = ad236 := (by injection e236)
                replace p236 := eq_true p236
                replace q236 := eq_true q236
                have p237 : 0 ≤ (x10_2 : Int) := of_decide_eq_true (by first | (with_reducible assumption) | assumption)
                have q237 : x10_2 < (t226.length : Int) := of_decide_eq_true (by first | (with_reducible assumption) | assumption)
                obtain ⟨ad237, e237, hx237_0, hx237_1⟩ := at_T51 (Kd.R_reads' HO_7.out).2.2 x10_2 p237 q237
                obtain rfl : ad232 = ad237 := (by injection e237)
                replace p237 := eq_true p237
                replace q237 := eq_true q237
                have p238 : 0 ≤ (x10_2 : Int) := of_decide_eq_true (by first | (with_reducible assumption) | assumption)
                have q238 : x10_2 < (t226.length : Int) := of_decide_eq_true (by first | (with_reducible assumption) | assumption)
                obtain ⟨ad238, e238, hx238_0, hx238_1⟩ := at_T51 (Kd.R_reads' HO_7.out).2.2 x10_2 p238 q238
                obtain rfl : ad232 = ad238 := (by injection e238)
                replace p238 := eq_true p238
                replace q238 := eq_true q238
                have p239 : 0 ≤ ((ji28) : Int) := of_decide_eq_true (by first | (with_reducible assumption) | assumption)
                have q239 : (ji28) < (t226.length : Int) := of_decide_eq_true (by first | (with_reducible assumption) | assumption)
                obtain ⟨ad239, e239, hx239_0, hx239_1⟩ := at_T51 (Kd.R_reads' HO_7.out).2.2 (ji28) p239 q239
                obtain rfl : ad232 = ad239 := (by injection e239)
                replace p239 := eq_true p239
                replace q239 := eq_true q239
                refine start_ (n := 60) (S := fun w' => w'.cell? (ad232.add ((x10_2).toNat * 2)) = some (.int .i64 ((rd_T51 t226 x10_2).f0)) ∧ w'.cell? ⟨(ad232.add ((x10_2).toNat * 2)).block, (ad232.add ((x10_2).toNat * 2)).off + 1, none⟩ = some (.int .i64 ((rd_T51 t226 x10_2).f1)) ∧ w'.cell? (ad232.add ((x10_2).toNat * 2)) = some (.int .i64 ((rd_T51 t226 x10_2).f0)) ∧ w'.cell? ⟨(ad232.add ((x10_2).toNat * 2)).block, (ad232.add ((x10_2).toNat * 2)).off + 1, none⟩ = some (.int .i64 ((rd_T51 t226 x10_2).f1)) ∧ w'.cell? (ad232.add ((x10_2).toNat * 2)) = some (.int .i64 ((rd_T51 t226 x10_2).f0)) ∧ w'.cell? ⟨(ad232.add ((x10_2).toNat * 2)).block, (ad232.add ((x10_2).toNat * 2)).off + 1, none⟩ = some (.int .i64 ((rd_T51 t226 x10_2).f1)) ∧ w'.cell? (ad232.add (((ji28)).toNat * 2)) = some (.int .i64 ((rd_T51 t226 (ji28)).f0)) ∧ w'.cell? ⟨(ad232.add (((ji28)).toNat * 2)).block, (ad232.add (((ji28)).toNat * 2)).off + 1, none⟩ = some (.int .i64 ((rd_T51 t226 (ji28)).f1))) (ds := []) qa0 (by kernel_rfl) rfl rfl ⟨hx236_0, hx236_1, hx237_0, hx237_1, hx238_0, hx238_1, hx239_0, hx239_1⟩ (fun hHeld => ?_); refine with_tabW quittancelaw11_ProrateTerm.tab9 quittancelaw11_ProrateTerm.bits9 (fun HT_ HW_ => ?_)
                generalize w22.drew = w34 at HO_7 HB hx236_0 hx236_1 hx237_0 hx237_1 hx238_0 hx238_1 hx239_0 hx239_1 hHeld ⊢
                refine pure_ (i := 0) (N := some 62) (v := ?_) (a' := ?_) qa1 rfl rfl (any_of HT_.out (by kernel_rfl)) (fun _ _ _ h => h) (Or.inl ⟨by rfl, ?_⟩) ?_ ?_; rotate_left
                ·intro w'; go_simp; with_reducible rfl
                rotate_left
                ·simp only [Act.put, qax, qay, qaz, i64_w, i32_w]; rfl
                refine pure_ (i := 1) (N := some 63) (v := ?_) (a' := ?_) qa2 rfl rfl (any_of HT_.out (by kernel_rfl)) (fun _ _ _ h => h) (Or.inl ⟨by rfl, ?_⟩) ?_ ?_; rotate_left
                ·intro w'; go_simp; with_reducible rfl
                rotate_left
                ·simp only [Act.put, qax, qay, qaz, i64_w, i32_w]; rfl
                refine pure_ (i := 2) (N := some 64) (v := ?_) (a' := ?_) qa3 rfl rfl (any_of HT_.out (by kernel_rfl)) (fun _ _ _ h => h) (Or.inl ⟨by rfl, ?_⟩) ?_ ?_; rotate_left
                ·intro w'; go_simp; with_reducible rfl
                rotate_left
                ·simp only [Act.put, qax, qay, qaz, i64_w, i32_w]; rfl
                refine pure_ (i := 3) (N := some 65) (v := ?_) (a' := ?_) qa4 rfl rfl (any_of HT_.out (by kernel_rfl)) (fun _ _ _ h => h) (Or.inl ⟨by rfl, ?_⟩) ?_ ?_; rotate_left
                ·intro w'; go_simp; with_reducible rfl
                rotate_left
                ·simp only [Act.put, qax, qay, qaz, i64_w, i32_w]; rfl
                refine take_ (i := 4) (N := some 66) (v := ?_) (a' := ?_) qa5 rfl rfl (take_ofW HT_.out HW_.out (by kernel_rfl)) (fun _ _ _ h => h) (Or.inl ⟨by rfl, ?_⟩) hHeld ?_ ?_; rotate_left
                ·rintro w' ⟨s0, s1, s2, s3, s4, s5, s6, s7⟩; go_simp; with_reducible rfl
                rotate_left
                ·simp only [Act.put, qax, qay, qaz, i64_w, i32_w]; rfl
                refine pure_ (i := 5) (N := some 67) (v := ?_) (a' := ?_) qa6 rfl rfl (any_of HT_.out (by kernel_rfl)) (fun _ _ _ h => h) (Or.inl ⟨by rfl, ?_⟩) ?_ ?_; rotate_left
                ·intro w'; go_simp; with_reducible rfl
                rotate_left
                ·simp only [Act.put, qax, qay, qaz, i64_w, i32_w]; rfl
                refine pure_ (i := 6) (N := some 68) (v := ?_) (a' := ?_) qa7 rfl rfl (any_of HT_.out (by kernel_rfl)) (fun _ _ _ h => h) (Or.inl ⟨by rfl, ?_⟩) ?_ ?_; rotate_left
                ·intro w'; go_simp; with_reducible rfl
                rotate_left
                ·simp only [Act.put, qax, qay, qaz, i64_w, i32_w]; rfl
                refine pure_ (i := 7) (N := some 69) (v := ?_) (a' := ?_) qa8 rfl rfl (any_of HT_.out (by kernel_rfl)) (fun _ _ _ h => h) (Or.inl ⟨by rfl, ?_⟩) ?_ ?_; rotate_left
                ·intro w'; go_simp; with_reducible rfl
                rotate_left
                ·simp only [Act.put, qax, qay, qaz, i64_w, i32_w]; rfl
                refine pure_ (i := 8) (N := some 70) (v := ?_) (a' := ?_) qa9 rfl rfl (any_of HT_.out (by kernel_rfl)) (fun _ _ _ h => h) (Or.inl ⟨by rfl, ?_⟩) ?_ ?_; rotate_left
                ·intro w'; go_simp; with_reducible rfl
                rotate_left
                ·simp only [Act.put, qax, qay, qaz, i64_w, i32_w]; rfl
                refine pure_ (i := 9) (N := some 71) (v := ?_) (a' := ?_) qa10 rfl rfl (any_of HT_.out (by kernel_rfl)) (fun _ _ _ h => h) (Or.inl ⟨by rfl, ?_⟩) ?_ ?_; rotate_left
                ·intro w'; go_simp; with_reducible rfl
                rotate_left
                ·simp only [Act.put, qax, qay, qaz, i64_w, i32_w]; rfl
                refine pure_ (i := 10) (N := some 72) (v := ?_) (a' := ?_) qa11 rfl rfl (any_of HT_.out (by kernel_rfl)) (fun _ _ _ h => h) (Or.inl ⟨by rfl, ?_⟩) ?_ ?_; rotate_left
                ·intro w'; go_simp; with_reducible rfl
                rotate_left
                ·simp only [Act.put, qax, qay, qaz, i64_w, i32_w]; rfl
                refine pure_ (i := 12) (N := some 74) (v := ?_) (a' := ?_) qa61 rfl rfl (any_of HT_.out (by kernel_rfl)) (fun _ _ _ h => h) (Or.inl ⟨by rfl, ?_⟩) ?_ ?_; rotate_left
                ·intro w'; go_simp; with_reducible rfl
                rotate_left
                ·simp only [Act.put, qax, qay, qaz, i64_w, i32_w]; rfl
                refine pure_ (i := 13) (N := some 75) (v := ?_) (a' := ?_) qa62 rfl rfl (any_of HT_.out (by kernel_rfl)) (fun _ _ _ h => h) (Or.inl ⟨by rfl, ?_⟩) ?_ ?_; rotate_left
                ·intro w'; go_simp; with_reducible rfl
                rotate_left
                ·simp only [Act.put, qax, qay, qaz, i64_w, i32_w]; rfl
                refine pure_ (i := 14) (N := some 76) (v := ?_) (a' := ?_) qa63 rfl rfl (any_of HT_.out (by kernel_rfl)) (fun _ _ _ h => h) (Or.inl ⟨by rfl, ?_⟩) ?_ ?_; rotate_left
                ·intro w'; go_simp; with_reducible rfl
                rotate_left
                ·simp only [Act.put, qax, qay, qaz, i64_w, i32_w]; rfl
                refine pure_ (i := 15) (N := some 77) (v := ?_) (a' := ?_) qa64 rfl rfl (any_of HT_.out (by kernel_rfl)) (fun _ _ _ h => h) (Or.inl ⟨by rfl, ?_⟩) ?_ ?_; rotate_left
                ·intro w'; go_simp; with_reducible rfl
                rotate_left
                ·simp only [Act.put, qax, qay, qaz, i64_w, i32_w]; rfl
                refine take_ (i := 11) (N := some 73) (v := ?_) (a' := ?_) qa16 rfl rfl (take_ofW HT_.out HW_.out (by kernel_rfl)) (fun _ _ _ h => h) (Or.inl ⟨by rfl, ?_⟩) hHeld ?_ ?_; rotate_left
                ·rintro w' ⟨s0, s1, s2, s3, s4, s5, s6, s7⟩; go_simp; with_reducible rfl
                rotate_left
                ·simp only [Act.put, qax, qay, qaz, i64_w, i32_w]; rfl
                refine pure_ (i := 16) (N := some 78) (v := ?_) (a' := ?_) qa17 rfl rfl (any_of HT_.out (by kernel_rfl)) (fun _ _ _ h => h) (Or.inl ⟨by rfl, ?_⟩) ?_ ?_; rotate_left
                ·intro w'; go_simp; with_reducible rfl
                rotate_left
                ·simp only [Act.put, qax, qay, qaz, i64_w, i32_w]; rfl
                refine pure_ (i := 17) (N := some 79) (v := ?_) (a' := ?_) qa18 rfl rfl (any_of HT_.out (by kernel_rfl)) (fun _ _ _ h => h) (Or.inl ⟨by rfl, ?_⟩) ?_ ?_; rotate_left
                ·intro w'; go_simp; with_reducible rfl
                rotate_left
                ·simp only [Act.put, qax, qay, qaz, i64_w, i32_w]; rfl
                refine pure_ (i := 18) (N := some 80) (v := ?_) (a' := ?_) qa19 rfl rfl (any_of HT_.out (by kernel_rfl)) (fun _ _ _ h => h) (Or.inl ⟨by rfl, ?_⟩) ?_ ?_; rotate_left
                ·intro w'; go_simp; with_reducible rfl
                rotate_left
                ·simp only [Act.put, qax, qay, qaz, i64_w, i32_w]; rfl
                refine pure_ (i := 19) (N := some 81) (v := ?_) (a' := ?_) qa20 rfl rfl (any_of HT_.out (by kernel_rfl)) (fun _ _ _ h => h) (Or.inl ⟨by rfl, ?_⟩) ?_ ?_; rotate_left
                ·intro w'; go_simp; with_reducible rfl
                rotate_left
                ·simp only [Act.put, qax, qay, qaz, i64_w, i32_w]; rfl
                refine pure_ (i := 20) (N := some 82) (v := ?_) (a' := ?_) qa21 rfl rfl (any_of HT_.out (by kernel_rfl)) (fun _ _ _ h => h) (Or.inl ⟨by rfl, ?_⟩) ?_ ?_; rotate_left
                ·intro w'; go_simp; with_reducible rfl
                rotate_left
                ·simp only [Act.put, qax, qay, qaz, i64_w, i32_w]; rfl
                refine pure_ (i := 21) (N := some 83) (v := ?_) (a' := ?_) qa22 rfl rfl (any_of HT_.out (by kernel_rfl)) (fun _ _ _ h => h) (Or.inl ⟨by rfl, ?_⟩) ?_ ?_; rotate_left
                ·intro w'; go_simp; with_reducible rfl
                rotate_left
                ·simp only [Act.put, qax, qay, qaz, i64_w, i32_w]; rfl
                refine pure_ (i := 22) (N := some 84) (v := ?_) (a' := ?_) qa23 rfl rfl (any_of HT_.out (by kernel_rfl)) (fun _ _ _ h => h) (Or.inl ⟨by rfl, ?_⟩) ?_ ?_; rotate_left
                ·intro w'; go_simp; with_reducible rfl
                rotate_left
                ·simp only [Act.put, qax, qay, qaz, i64_w, i32_w]; rfl
                refine pure_ (i := 23) (N := some 85) (v := ?_) (a' := ?_) qa24 rfl rfl (any_of HT_.out (by kernel_rfl)) (fun _ _ _ h => h) (Or.inl ⟨by rfl, ?_⟩) ?_ ?_; rotate_left
                ·intro w'; go_simp; with_reducible rfl
                rotate_left
                ·simp only [Act.put, qax, qay, qaz, i64_w, i32_w]; rfl
                refine pure_ (i := 24) (N := some 86) (v := ?_) (a' := ?_) qa25 rfl rfl (any_of HT_.out (by kernel_rfl)) (fun _ _ _ h => h) (Or.inl ⟨by rfl, ?_⟩) ?_ ?_; rotate_left
                ·intro w'; go_simp; with_reducible rfl
                rotate_left
                ·simp only [Act.put, qax, qay, qaz, i64_w, i32_w]; rfl
                refine pure_ (i := 25) (N := some 87) (v := ?_) (a' := ?_) qa26 rfl rfl (any_of HT_.out (by kernel_rfl)) (fun _ _ _ h => h) (Or.inl ⟨by rfl, ?_⟩) ?_ ?_; rotate_left
                ·intro w'; go_simp; with_reducible rfl
                rotate_left
                ·simp only [Act.put, qax, qay, qaz, i64_w, i32_w]; rfl
                refine pure_ (i := 27) (N := some 89) (v := ?_) (a' := ?_) qa65 rfl rfl (any_of HT_.out (by kernel_rfl)) (fun _ _ _ h => h) (Or.inl ⟨by rfl, ?_⟩) ?_ ?_; rotate_left
                ·intro w'; go_simp; with_reducible rfl
                rotate_left
                ·simp only [Act.put, qax, qay, qaz, i64_w, i32_w]; rfl
                refine pure_ (i := 28) (N := some 90) (v := ?_) (a' := ?_) qa66 rfl rfl (any_of HT_.out (by kernel_rfl)) (fun _ _ _ h => h) (Or.inl ⟨by rfl, ?_⟩) ?_ ?_; rotate_left
                ·intro w'; go_simp; with_reducible rfl
                rotate_left
                ·simp only [Act.put, qax, qay, qaz, i64_w, i32_w]; rfl
                refine pure_ (i := 29) (N := some 91) (v := ?_) (a' := ?_) qa67 rfl rfl (any_of HT_.out (by kernel_rfl)) (fun _ _ _ h => h) (Or.inl ⟨by rfl, ?_⟩) ?_ ?_; rotate_left
                ·intro w'; go_simp; with_reducible rfl
                rotate_left
                ·simp only [Act.put, qax, qay, qaz, i64_w, i32_w]; rfl
                refine pure_ (i := 30) (N := some 92) (v := ?_) (a' := ?_) qa68 rfl rfl (any_of HT_.out (by kernel_rfl)) (fun _ _ _ h => h) (Or.inl ⟨by rfl, ?_⟩) ?_ ?_; rotate_left
                ·intro w'; go_simp; with_reducible rfl
                rotate_left
                ·simp only [Act.put, qax, qay, qaz, i64_w, i32_w]; rfl
                refine pure_ (i := 31) (N := some 93) (v := ?_) (a' := ?_) qa69 rfl rfl (any_of HT_.out (by kernel_rfl)) (fun _ _ _ h => h) (Or.inl ⟨by rfl, ?_⟩) ?_ ?_; rotate_left
                ·intro w'; go_simp; with_reducible rfl
                rotate_left
                ·simp only [Act.put, qax, qay, qaz, i64_w, i32_w]; rfl
                refine take_ (i := 26) (N := some 88) (v := ?_) (a' := ?_) qa32 rfl rfl (take_ofW HT_.out HW_.out (by kernel_rfl)) (fun _ _ _ h => h) (Or.inl ⟨by rfl, ?_⟩) hHeld ?_ ?_; rotate_left
                ·rintro w' ⟨s0, s1, s2, s3, s4, s5, s6, s7⟩; go_simp; with_reducible rfl
                rotate_left
                ·simp only [Act.put, qax, qay, qaz, i64_w, i32_w]; rfl
                refine take_ (i := 32) (N := some 94) (v := ?_) (a' := ?_) qa33 rfl rfl (take_ofW HT_.out HW_.out (by kernel_rfl)) (fun _ _ _ h => h) (Or.inl ⟨by rfl, ?_⟩) hHeld ?_ ?_; rotate_left
                ·rintro w' ⟨s0, s1, s2, s3, s4, s5, s6, s7⟩; go_simp; with_reducible rfl
                rotate_left
                ·simp only [Act.put, qax, qay, qaz, i64_w, i32_w]; rfl
                refine pure_ (i := 33) (N := some 95) (v := ?_) (a' := ?_) qa34 rfl rfl (any_of HT_.out (by kernel_rfl)) (fun _ _ _ h => h) (Or.inl ⟨by rfl, ?_⟩) ?_ ?_; rotate_left
                ·intro w'; go_simp; with_reducible rfl
                rotate_left
                ·simp only [Act.put, qax, qay, qaz, i64_w, i32_w]; rfl
                refine pure_ (i := 34) (N := some 96) (v := ?_) (a' := ?_) qa35 rfl rfl (any_of HT_.out (by kernel_rfl)) (fun _ _ _ h => h) (Or.inl ⟨by rfl, ?_⟩) ?_ ?_; rotate_left
                ·intro w'; go_simp; with_reducible rfl
                rotate_left
                ·simp only [Act.put, qax, qay, qaz, i64_w, i32_w]; rfl
                refine pure_ (i := 35) (N := some 97) (v := ?_) (a' := ?_) qa36 rfl rfl (any_of HT_.out (by kernel_rfl)) (fun _ _ _ h => h) (Or.inl ⟨by rfl, ?_⟩) ?_ ?_; rotate_left
                ·intro w'; go_simp; with_reducible rfl
                rotate_left
                ·simp only [Act.put, qax, qay, qaz, i64_w, i32_w]; rfl
                refine pure_ (i := 36) (N := some 98) (v := ?_) (a' := ?_) qa37 rfl rfl (any_of HT_.out (by kernel_rfl)) (fun _ _ _ h => h) (Or.inl ⟨by rfl, ?_⟩) ?_ ?_; rotate_left
                ·intro w'; go_simp; with_reducible rfl
                rotate_left
                ·simp only [Act.put, qax, qay, qaz, i64_w, i32_w]; rfl
                refine pure_ (i := 37) (N := some 99) (v := ?_) (a' := ?_) qa38 rfl rfl (any_of HT_.out (by kernel_rfl)) (fun _ _ _ h => h) (Or.inl ⟨by rfl, ?_⟩) ?_ ?_; rotate_left
                ·intro w'; go_simp; with_reducible rfl
                rotate_left
                ·simp only [Act.put, qax, qay, qaz, i64_w, i32_w]; rfl
                refine pure_ (i := 38) (N := some 100) (v := ?_) (a' := ?_) qa39 rfl rfl (any_of HT_.out (by kernel_rfl)) (fun _ _ _ h => h) (Or.inl ⟨by rfl, ?_⟩) ?_ ?_; rotate_left
                ·intro w'; go_simp; with_reducible rfl
                rotate_left
                ·simp only [Act.put, qax, qay, qaz, i64_w, i32_w]; rfl
                refine pure_ (i := 39) (N := some 101) (v := ?_) (a' := ?_) qa40 rfl rfl (any_of HT_.out (by kernel_rfl)) (fun _ _ _ h => h) (Or.inl ⟨by rfl, ?_⟩) ?_ ?_; rotate_left
                ·intro w'; go_simp; with_reducible rfl
                rotate_left
                ·simp only [Act.put, qax, qay, qaz, i64_w, i32_w]; rfl
                refine pure_ (i := 40) (N := some 102) (v := ?_) (a' := ?_) qa41 rfl rfl (any_of HT_.out (by kernel_rfl)) (fun _ _ _ h => h) (Or.inl ⟨by rfl, ?_⟩) ?_ ?_; rotate_left
                ·intro w'; go_simp; with_reducible rfl
                rotate_left
                ·simp only [Act.put, qax, qay, qaz, i64_w, i32_w]; rfl
                refine pure_ (i := 41) (N := some 103) (v := ?_) (a' := ?_) qa42 rfl rfl (any_of HT_.out (by kernel_rfl)) (fun _ _ _ h => h) (Or.inl ⟨by rfl, ?_⟩) ?_ ?_; rotate_left
                ·intro w'; go_simp; with_reducible rfl
                rotate_left
                ·simp only [Act.put, qax, qay, qaz, i64_w, i32_w]; rfl
                refine pure_ (i := 42) (N := some 104) (v := ?_) (a' := ?_) qa43 rfl rfl (any_of HT_.out (by kernel_rfl)) (fun _ _ _ h => h) (Or.inl ⟨by rfl, ?_⟩) ?_ ?_; rotate_left
                ·intro w'; go_simp; with_reducible rfl
                rotate_left
                ·simp only [Act.put, qax, qay, qaz, i64_w, i32_w]; rfl
                refine pure_ (i := 43) (N := some 105) (v := ?_) (a' := ?_) qa44 rfl rfl (any_of HT_.out (by kernel_rfl)) (fun _ _ _ h => h) (Or.inl ⟨by rfl, ?_⟩) ?_ ?_; rotate_left
                ·intro w'; go_simp; with_reducible rfl
                rotate_left
                ·simp only [Act.put, qax, qay, qaz, i64_w, i32_w]; rfl
                refine pure_ (i := 44) (N := some 106) (v := ?_) (a' := ?_) qa45 rfl rfl (any_of HT_.out (by kernel_rfl)) (fun _ _ _ h => h) (Or.inl ⟨by rfl, ?_⟩) ?_ ?_; rotate_left
                ·intro w'; go_simp; with_reducible rfl
                rotate_left
                ·simp only [Act.put, qax, qay, qaz, i64_w, i32_w]; rfl
                refine pure_ (i := 45) (N := some 107) (v := ?_) (a' := ?_) qa46 rfl rfl (any_of HT_.out (by kernel_rfl)) (fun _ _ _ h => h) (Or.inl ⟨by rfl, ?_⟩) ?_ ?_; rotate_left
                ·intro w'; go_simp; with_reducible rfl
                rotate_left
                ·simp only [Act.put, qax, qay, qaz, i64_w, i32_w]; rfl
                refine pure_ (i := 46) (N := some 108) (v := ?_) (a' := ?_) qa47 rfl rfl (any_of HT_.out (by kernel_rfl)) (fun _ _ _ h => h) (Or.inl ⟨by rfl, ?_⟩) ?_ ?_; rotate_left
                ·intro w'; go_simp; with_reducible rfl
                rotate_left
                ·simp only [Act.put, qax, qay, qaz, i64_w, i32_w]; rfl
                refine pure_ (i := 47) (N := some 109) (v := ?_) (a' := ?_) qa48 rfl rfl (any_of HT_.out (by kernel_rfl)) (fun _ _ _ h => h) (Or.inl ⟨by rfl, ?_⟩) ?_ ?_; rotate_left
                ·intro w'; go_simp; with_reducible rfl
                rotate_left
                ·simp only [Act.put, qax, qay, qaz, i64_w, i32_w]; rfl
                refine pure_ (i := 48) (N := some 110) (v := undef) (a' := ?_) qa49 rfl rfl (any_of HT_.out (by kernel_rfl)) (fun _ _ _ h => h) (Or.inr ⟨by rfl, rfl⟩) ?_ ?_; rotate_left
                ·simp only [Act.put, qax, qay, qaz, i64_w, i32_w]; rfl
                refine pure_ (i := 49) (N := some 111) (v := undef) (a' := ?_) qa50 rfl rfl (any_of HT_.out (by kernel_rfl)) (fun _ _ _ h => h) (Or.inr ⟨by rfl, rfl⟩) ?_ ?_; rotate_left
                ·simp only [Act.put, qax, qay, qaz, i64_w, i32_w]; rfl
                refine pure_ (i := 50) (N := some 112) (v := undef) (a' := ?_) qa51 rfl rfl (any_of HT_.out (by kernel_rfl)) (fun _ _ _ h => h) (Or.inr ⟨by rfl, rfl⟩) ?_ ?_; rotate_left
                ·simp only [Act.put, qax, qay, qaz, i64_w, i32_w]; rfl
                refine pure_ (i := 51) (N := some 113) (v := undef) (a' := ?_) qa52 rfl rfl (any_of HT_.out (by kernel_rfl)) (fun _ _ _ h => h) (Or.inr ⟨by rfl, rfl⟩) ?_ ?_; rotate_left
                ·simp only [Act.put, qax, qay, qaz, i64_w, i32_w]; rfl
                refine pure_ (i := 52) (N := some 114) (v := undef) (a' := ?_) qa53 rfl rfl (any_of HT_.out (by kernel_rfl)) (fun _ _ _ h => h) (Or.inr ⟨by rfl, rfl⟩) ?_ ?_; rotate_left
                ·simp only [Act.put, qax, qay, qaz, i64_w, i32_w]; rfl
                refine pure_ (i := 53) (N := some 115) (v := undef) (a' := ?_) qa54 rfl rfl (any_of HT_.out (by kernel_rfl)) (fun _ _ _ h => h) (Or.inr ⟨by rfl, rfl⟩) ?_ ?_; rotate_left
                ·simp only [Act.put, qax, qay, qaz, i64_w, i32_w]; rfl
                refine pure_ (i := 54) (N := some 116) (v := undef) (a' := ?_) qa55 rfl rfl (any_of HT_.out (by kernel_rfl)) (fun _ _ _ h => h) (Or.inr ⟨by rfl, rfl⟩) ?_ ?_; rotate_left
                ·simp only [Act.put, qax, qay, qaz, i64_w, i32_w]; rfl
                refine pure_ (i := 55) (N := some 117) (v := undef) (a' := ?_) qa56 rfl rfl (any_of HT_.out (by kernel_rfl)) (fun _ _ _ h => h) (Or.inr ⟨by rfl, rfl⟩) ?_ ?_; rotate_left
                ·simp only [Act.put, qax, qay, qaz, i64_w, i32_w]; rfl
                refine pure_ (i := 56) (N := some 118) (v := undef) (a' := ?_) qa57 rfl rfl (any_of HT_.out (by kernel_rfl)) (fun _ _ _ h => h) (Or.inr ⟨by rfl, rfl⟩) ?_ ?_; rotate_left
                ·simp only [Act.put, qax, qay, qaz, i64_w, i32_w]; rfl
                refine pure_ (i := 57) (N := some 119) (v := undef) (a' := ?_) qa58 rfl rfl (any_of HT_.out (by kernel_rfl)) (fun _ _ _ h => h) (Or.inr ⟨by rfl, rfl⟩) ?_ ?_; rotate_left
                ·simp only [Act.put, qax, qay, qaz, i64_w, i32_w]; rfl
                refine pure_ (i := 58) (N := some 120) (v := ?_) (a' := ?_) qa59 rfl rfl (any_of HT_.out (by kernel_rfl)) (fun _ _ _ h => h) (Or.inl ⟨by rfl, ?_⟩) ?_ ?_; rotate_left
                ·intro w'; go_simp; with_reducible rfl
                rotate_left
                ·simp only [Act.put, qax, qay, qaz, i64_w, i32_w]; rfl
                refine pure_ (i := 59) (N := some 121) (v := ?_) (a' := ?_) qa60 rfl rfl (any_of HT_.out (by kernel_rfl)) (fun _ _ _ h => h) (Or.inl ⟨by rfl, ?_⟩) ?_ ?_; rotate_left
                ·intro w'; go_simp; with_reducible rfl
                rotate_left
                ·simp only [Act.put, qax, qay, qaz, i64_w, i32_w]; rfl
                refine done_ (done_of HT_.out (by kernel_rfl)) ?_
                try go_wp2
                go_meet
                case rel => exact ⟨_, (false), (by first | rfl | (simp; done) | (simp [*]; done)), H', ⟨by have := HJ4.out; have := HK2.out; first | omega | exact Nat.le_refl _⟩, ⟨by (with_reducible repeat (first | apply Kd.R_alloc | apply Kd.R_drewN | apply Kd.R_drew)); exact HO_7.out⟩, ⟨by repeat (first | (with_reducible first | exact HB.out | apply below_alloc | apply pw_below_drewN | apply below_drew1) | exact HB.out)⟩⟩
              ·as_aux_lemma =>
               rw [if_neg c31] at H
               have c31b0 : (((rd_T51 t226 x10_2).f0) == (wrap64 (((rd_T51 t226 (ji28)).f0) + 1))) = false := beq_eq_false_iff_ne.mpr c31
               have c31b1 : (((rd_T51 t226 x10_2).f0) != (wrap64 (((rd_T51 t226 (ji28)).f0) + 1))) = true := bne_iff_ne.mpr c31
               have H' := Aside0.mk H
               clear H
               try go_wp2
               have n0_ := Aside0.mk (Kd.R_drew HO_7.out)
               have n1_ := Aside0.mk (below_drew1 HB.out)
               clear HO_7
               clear HB
               have HO_7 := n0_
               have HB := n1_
               clear n0_ n1_
               have p236 : 0 ≤ (x10_2 : Int) := of_decide_eq_true (by first | (with_reducible assumption) | assumption)
               have q236 : x10_2 < (t226.length : Int) := of_decide_eq_true (by first | (with_reducible assumption) | assumption)
               obtain ⟨ad236, e236, hx236_0, hx236_1⟩ := at_T51 (Kd.R_reads' HO_7.out).2.2 x10_2 p236 q236
               obtain rfl : ad232 = ad236 := (by injection e236)
               replace p236 := eq_true p236
               replace q236 := eq_true q236
               have p237 : 0 ≤ (x10_2 : Int) := of_decide_eq_true (by first | (with_reducible assumption) | assumption)
               have q237 : x10_2 < (t226.length : Int) := of_decide_eq_true (by first | (with_reducible assumption) | assumption)
               obtain ⟨ad237, e237, hx237_0, hx237_1⟩ := at_T51 (Kd.R_reads' HO_7.out).2.2 x10_2 p237 q237
               obtain rfl : ad232 = ad237 := (by injection e237)
               replace p237 := eq_true p237
               replace q237 := eq_true q237
               have p238 : 0 ≤ (x10_2 : Int) := of_decide_eq_true (by first | (with_reducible assumption) | assumption)
               have q238 : x10_2 < (t226.length : Int) := of_decide_eq_true (by first | (with_reducible assumption) | assumption)
               obtain ⟨ad238, e238, hx238_0, hx238_1⟩ := at_T51 (Kd.R_reads' HO_7.out).2.2 x10_2 p238 q238
               obtain rfl : ad232 = ad238 := (by injection e238)
               replace p238 := eq_true p238
               replace q238 := eq_true q238
               have p239 : 0 ≤ ((ji28) : Int) := of_decide_eq_true (by first | (with_reducible assumption) | assumption)
               have q239 : (ji28) < (t226.length : Int) := of_decide_eq_true (by first | (with_reducible assumption) | assumption)
               obtain ⟨ad239, e239, hx239_0, hx239_1⟩ := at_T51 (Kd.R_reads' HO_7.out).2.2 (ji28) p239 q239
               obtain rfl : ad232 = ad239 := (by injection e239)
               replace p239 := eq_true p239
               replace q239 := eq_true q239
               refine start_ (n := 60) (S := fun w' => w'.cell? (ad232.add ((x10_2).toNat * 2)) = some (.int .i64 ((rd_T51 t226 x10_2).f0)) ∧ w'.cell? ⟨(ad232.add ((x10_2).toNat * 2)).block, (ad232.add ((x10_2).toNat * 2)).off + 1, none⟩ = some (.int .i64 ((rd_T51 t226 x10_2).f1)) ∧ w'.cell? (ad232.add ((x10_2).toNat * 2)) = some (.int .i64 ((rd_T51 t226 x10_2).f0)) ∧ w'.cell? ⟨(ad232.add ((x10_2).toNat * 2)).block, (ad232.add ((x10_2).toNat * 2)).off + 1, none⟩ = some (.int .i64 ((rd_T51 t226 x10_2).f1)) ∧ w'.cell? (ad232.add ((x10_2).toNat * 2)) = some (.int .i64 ((rd_T51 t226 x10_2).f0)) ∧ w'.cell? ⟨(ad232.add ((x10_2).toNat * 2)).block, (ad232.add ((x10_2).toNat * 2)).off + 1, none⟩ = some (.int .i64 ((rd_T51 t226 x10_2).f1)) ∧ w'.cell? (ad232.add (((ji28)).toNat * 2)) = some (.int .i64 ((rd_T51 t226 (ji28)).f0)) ∧ w'.cell? ⟨(ad232.add (((ji28)).toNat * 2)).block, (ad232.add (((ji28)).toNat * 2)).off + 1, none⟩ = some (.int .i64 ((rd_T51 t226 (ji28)).f1))) (ds := []) qa0 (by kernel_rfl) rfl rfl ⟨hx236_0, hx236_1, hx237_0, hx237_1, hx238_0, hx238_1, hx239_0, hx239_1⟩ (fun hHeld => ?_); refine with_tabW quittancelaw11_ProrateTerm.tab9 quittancelaw11_ProrateTerm.bits9 (fun HT_ HW_ => ?_)
               generalize w22.drew = w35 at HO_7 HB hx236_0 hx236_1 hx237_0 hx237_1 hx238_0 hx238_1 hx239_0 hx239_1 hHeld ⊢
               refine pure_ (i := 0) (N := some 62) (v := ?_) (a' := ?_) qa1 rfl rfl (any_of HT_.out (by kernel_rfl)) (fun _ _ _ h => h) (Or.inl ⟨by rfl, ?_⟩) ?_ ?_; rotate_left
               ·intro w'; go_simp; with_reducible rfl
               rotate_left
               ·simp only [Act.put, qax, qay, qaz, i64_w, i32_w]; rfl
               refine pure_ (i := 1) (N := some 63) (v := ?_) (a' := ?_) qa2 rfl rfl (any_of HT_.out (by kernel_rfl)) (fun _ _ _ h => h) (Or.inl ⟨by rfl, ?_⟩) ?_ ?_; rotate_left
               ·intro w'; go_simp; with_reducible rfl
               rotate_left
               ·simp only [Act.put, qax, qay, qaz, i64_w, i32_w]; rfl
               refine pure_ (i := 2) (N := some 64) (v := ?_) (a' := ?_) qa3 rfl rfl (any_of HT_.out (by kernel_rfl)) (fun _ _ _ h => h) (Or.inl ⟨by rfl, ?_⟩) ?_ ?_; rotate_left
               ·intro w'; go_simp; with_reducible rfl
               rotate_left
               ·simp only [Act.put, qax, qay, qaz, i64_w, i32_w]; rfl
               refine pure_ (i := 3) (N := some 65) (v := ?_) (a' := ?_) qa4 rfl rfl (any_of HT_.out (by kernel_rfl)) (fun _ _ _ h => h) (Or.inl ⟨by rfl, ?_⟩) ?_ ?_; rotate_left
               ·intro w'; go_simp; with_reducible rfl
               rotate_left
               ·simp only [Act.put, qax, qay, qaz, i64_w, i32_w]; rfl
               refine take_ (i := 4) (N := some 66) (v := ?_) (a' := ?_) qa5 rfl rfl (take_ofW HT_.out HW_.out (by kernel_rfl)) (fun _ _ _ h => h) (Or.inl ⟨by rfl, ?_⟩) hHeld ?_ ?_; rotate_left
               ·rintro w' ⟨s0, s1, s2, s3, s4, s5, s6, s7⟩; go_simp; with_reducible rfl
               rotate_left
               ·simp only [Act.put, qax, qay, qaz, i64_w, i32_w]; rfl
               refine pure_ (i := 5) (N := some 67) (v := ?_) (a' := ?_) qa6 rfl rfl (any_of HT_.out (by kernel_rfl)) (fun _ _ _ h => h) (Or.inl ⟨by rfl, ?_⟩) ?_ ?_; rotate_left
               ·intro w'; go_simp; with_reducible rfl
               rotate_left
               ·simp only [Act.put, qax, qay, qaz, i64_w, i32_w]; rfl
               refine pure_ (i := 6) (N := some 68) (v := ?_) (a' := ?_) qa7 rfl rfl (any_of HT_.out (by kernel_rfl)) (fun _ _ _ h => h) (Or.inl ⟨by rfl, ?_⟩) ?_ ?_; rotate_left
               ·intro w'; go_simp; with_reducible rfl
               rotate_left
               ·simp only [Act.put, qax, qay, qaz, i64_w, i32_w]; rfl
               refine pure_ (i := 7) (N := some 69) (v := ?_) (a' := ?_) qa8 rfl rfl (any_of HT_.out (by kernel_rfl)) (fun _ _ _ h => h) (Or.inl ⟨by rfl, ?_⟩) ?_ ?_; rotate_left
               ·intro w'; go_simp; with_reducible rfl
               rotate_left
               ·simp only [Act.put, qax, qay, qaz, i64_w, i32_w]; rfl
               refine pure_ (i := 8) (N := some 70) (v := ?_) (a' := ?_) qa9 rfl rfl (any_of HT_.out (by kernel_rfl)) (fun _ _ _ h => h) (Or.inl ⟨by rfl, ?_⟩) ?_ ?_; rotate_left
               ·intro w'; go_simp; with_reducible rfl
               rotate_left
               ·simp only [Act.put, qax, qay, qaz, i64_w, i32_w]; rfl
               refine pure_ (i := 9) (N := some 71) (v := ?_) (a' := ?_) qa10 rfl rfl (any_of HT_.out (by kernel_rfl)) (fun _ _ _ h => h) (Or.inl ⟨by rfl, ?_⟩) ?_ ?_; rotate_left
               ·intro w'; go_simp; with_reducible rfl
               rotate_left
               ·simp only [Act.put, qax, qay, qaz, i64_w, i32_w]; rfl
               refine pure_ (i := 10) (N := some 72) (v := ?_) (a' := ?_) qa11 rfl rfl (any_of HT_.out (by kernel_rfl)) (fun _ _ _ h => h) (Or.inl ⟨by rfl, ?_⟩) ?_ ?_; rotate_left
               ·intro w'; go_simp; with_reducible rfl
               rotate_left
               ·simp only [Act.put, qax, qay, qaz, i64_w, i32_w]; rfl
               refine pure_ (i := 12) (N := some 74) (v := ?_) (a' := ?_) qa61 rfl rfl (any_of HT_.out (by kernel_rfl)) (fun _ _ _ h => h) (Or.inl ⟨by rfl, ?_⟩) ?_ ?_; rotate_left
               ·intro w'; go_simp; with_reducible rfl
               rotate_left
               ·simp only [Act.put, qax, qay, qaz, i64_w, i32_w]; rfl
               refine pure_ (i := 13) (N := some 75) (v := ?_) (a' := ?_) qa62 rfl rfl (any_of HT_.out (by kernel_rfl)) (fun _ _ _ h => h) (Or.inl ⟨by rfl, ?_⟩) ?_ ?_; rotate_left
               ·intro w'; go_simp; with_reducible rfl
               rotate_left
               ·simp only [Act.put, qax, qay, qaz, i64_w, i32_w]; rfl
               refine pure_ (i := 14) (N := some 76) (v := ?_) (a' := ?_) qa63 rfl rfl (any_of HT_.out (by kernel_rfl)) (fun _ _ _ h => h) (Or.inl ⟨by rfl, ?_⟩) ?_ ?_; rotate_left
               ·intro w'; go_simp; with_reducible rfl
               rotate_left
               ·simp only [Act.put, qax, qay, qaz, i64_w, i32_w]; rfl
               refine pure_ (i := 15) (N := some 77) (v := ?_) (a' := ?_) qa64 rfl rfl (any_of HT_.out (by kernel_rfl)) (fun _ _ _ h => h) (Or.inl ⟨by rfl, ?_⟩) ?_ ?_; rotate_left
               ·intro w'; go_simp; with_reducible rfl
               rotate_left
               ·simp only [Act.put, qax, qay, qaz, i64_w, i32_w]; rfl
               refine take_ (i := 11) (N := some 73) (v := ?_) (a' := ?_) qa16 rfl rfl (take_ofW HT_.out HW_.out (by kernel_rfl)) (fun _ _ _ h => h) (Or.inl ⟨by rfl, ?_⟩) hHeld ?_ ?_; rotate_left
               ·rintro w' ⟨s0, s1, s2, s3, s4, s5, s6, s7⟩; go_simp; with_reducible rfl
               rotate_left
               ·simp only [Act.put, qax, qay, qaz, i64_w, i32_w]; rfl
               refine pure_ (i := 16) (N := some 78) (v := ?_) (a' := ?_) qa17 rfl rfl (any_of HT_.out (by kernel_rfl)) (fun _ _ _ h => h) (Or.inl ⟨by rfl, ?_⟩) ?_ ?_; rotate_left
               ·intro w'; go_simp; with_reducible rfl
               rotate_left
               ·simp only [Act.put, qax, qay, qaz, i64_w, i32_w]; rfl
               refine pure_ (i := 17) (N := some 79) (v := ?_) (a' := ?_) qa18 rfl rfl (any_of HT_.out (by kernel_rfl)) (fun _ _ _ h => h) (Or.inl ⟨by rfl, ?_⟩) ?_ ?_; rotate_left
               ·intro w'; go_simp; with_reducible rfl
               rotate_left
               ·simp only [Act.put, qax, qay, qaz, i64_w, i32_w]; rfl
               refine pure_ (i := 18) (N := some 80) (v := ?_) (a' := ?_) qa19 rfl rfl (any_of HT_.out (by kernel_rfl)) (fun _ _ _ h => h) (Or.inl ⟨by rfl, ?_⟩) ?_ ?_; rotate_left
               ·intro w'; go_simp; with_reducible rfl
               rotate_left
               ·simp only [Act.put, qax, qay, qaz, i64_w, i32_w]; rfl
               refine pure_ (i := 19) (N := some 81) (v := ?_) (a' := ?_) qa20 rfl rfl (any_of HT_.out (by kernel_rfl)) (fun _ _ _ h => h) (Or.inl ⟨by rfl, ?_⟩) ?_ ?_; rotate_left
               ·intro w'; go_simp; with_reducible rfl
               rotate_left
               ·simp only [Act.put, qax, qay, qaz, i64_w, i32_w]; rfl
               refine pure_ (i := 20) (N := some 82) (v := ?_) (a' := ?_) qa21 rfl rfl (any_of HT_.out (by kernel_rfl)) (fun _ _ _ h => h) (Or.inl ⟨by rfl, ?_⟩) ?_ ?_; rotate_left
               ·intro w'; go_simp; with_reducible rfl
               rotate_left
               ·simp only [Act.put, qax, qay, qaz, i64_w, i32_w]; rfl
               refine pure_ (i := 21) (N := some 83) (v := ?_) (a' := ?_) qa22 rfl rfl (any_of HT_.out (by kernel_rfl)) (fun _ _ _ h => h) (Or.inl ⟨by rfl, ?_⟩) ?_ ?_; rotate_left
               ·intro w'; go_simp; with_reducible rfl
               rotate_left
               ·simp only [Act.put, qax, qay, qaz, i64_w, i32_w]; rfl
               refine pure_ (i := 22) (N := some 84) (v := ?_) (a' := ?_) qa23 rfl rfl (any_of HT_.out (by kernel_rfl)) (fun _ _ _ h => h) (Or.inl ⟨by rfl, ?_⟩) ?_ ?_; rotate_left
               ·intro w'; go_simp; with_reducible rfl
               rotate_left
               ·simp only [Act.put, qax, qay, qaz, i64_w, i32_w]; rfl
               refine pure_ (i := 23) (N := some 85) (v := ?_) (a' := ?_) qa24 rfl rfl (any_of HT_.out (by kernel_rfl)) (fun _ _ _ h => h) (Or.inl ⟨by rfl, ?_⟩) ?_ ?_; rotate_left
               ·intro w'; go_simp; with_reducible rfl
               rotate_left
               ·simp only [Act.put, qax, qay, qaz, i64_w, i32_w]; rfl
               refine pure_ (i := 24) (N := some 86) (v := ?_) (a' := ?_) qa25 rfl rfl (any_of HT_.out (by kernel_rfl)) (fun _ _ _ h => h) (Or.inl ⟨by rfl, ?_⟩) ?_ ?_; rotate_left
               ·intro w'; go_simp; with_reducible rfl
               rotate_left
               ·simp only [Act.put, qax, qay, qaz, i64_w, i32_w]; rfl
               refine pure_ (i := 25) (N := some 87) (v := ?_) (a' := ?_) qa26 rfl rfl (any_of HT_.out (by kernel_rfl)) (fun _ _ _ h => h) (Or.inl ⟨by rfl, ?_⟩) ?_ ?_; rotate_left
               ·intro w'; go_simp; with_reducible rfl
               rotate_left
               ·simp only [Act.put, qax, qay, qaz, i64_w, i32_w]; rfl
               refine pure_ (i := 27) (N := some 89) (v := ?_) (a' := ?_) qa65 rfl rfl (any_of HT_.out (by kernel_rfl)) (fun _ _ _ h => h) (Or.inl ⟨by rfl, ?_⟩) ?_ ?_; rotate_left
               ·intro w'; go_simp; with_reducible rfl
               rotate_left
               ·simp only [Act.put, qax, qay, qaz, i64_w, i32_w]; rfl
               refine pure_ (i := 28) (N := some 90) (v := ?_) (a' := ?_) qa66 rfl rfl (any_of HT_.out (by kernel_rfl)) (fun _ _ _ h => h) (Or.inl ⟨by rfl, ?_⟩) ?_ ?_; rotate_left
               ·intro w'; go_simp; with_reducible rfl
               rotate_left
               ·simp only [Act.put, qax, qay, qaz, i64_w, i32_w]; rfl
               refine pure_ (i := 29) (N := some 91) (v := ?_) (a' := ?_) qa67 rfl rfl (any_of HT_.out (by kernel_rfl)) (fun _ _ _ h => h) (Or.inl ⟨by rfl, ?_⟩) ?_ ?_; rotate_left
               ·intro w'; go_simp; with_reducible rfl
               rotate_left
               ·simp only [Act.put, qax, qay, qaz, i64_w, i32_w]; rfl
               refine pure_ (i := 30) (N := some 92) (v := ?_) (a' := ?_) qa68 rfl rfl (any_of HT_.out (by kernel_rfl)) (fun _ _ _ h => h) (Or.inl ⟨by rfl, ?_⟩) ?_ ?_; rotate_left
               ·intro w'; go_simp; with_reducible rfl
               rotate_left
               ·simp only [Act.put, qax, qay, qaz, i64_w, i32_w]; rfl
               refine pure_ (i := 31) (N := some 93) (v := ?_) (a' := ?_) qa69 rfl rfl (any_of HT_.out (by kernel_rfl)) (fun _ _ _ h => h) (Or.inl ⟨by rfl, ?_⟩) ?_ ?_; rotate_left
               ·intro w'; go_simp; with_reducible rfl
               rotate_left
               ·simp only [Act.put, qax, qay, qaz, i64_w, i32_w]; rfl
               refine take_ (i := 26) (N := some 88) (v := ?_) (a' := ?_) qa32 rfl rfl (take_ofW HT_.out HW_.out (by kernel_rfl)) (fun _ _ _ h => h) (Or.inl ⟨by rfl, ?_⟩) hHeld ?_ ?_; rotate_left
               ·rintro w' ⟨s0, s1, s2, s3, s4, s5, s6, s7⟩; go_simp; with_reducible rfl
               rotate_left
               ·simp only [Act.put, qax, qay, qaz, i64_w, i32_w]; rfl
               refine take_ (i := 32) (N := some 94) (v := ?_) (a' := ?_) qa33 rfl rfl (take_ofW HT_.out HW_.out (by kernel_rfl)) (fun _ _ _ h => h) (Or.inl ⟨by rfl, ?_⟩) hHeld ?_ ?_; rotate_left
               ·rintro w' ⟨s0, s1, s2, s3, s4, s5, s6, s7⟩; go_simp; with_reducible rfl
               rotate_left
               ·simp only [Act.put, qax, qay, qaz, i64_w, i32_w]; rfl
               refine pure_ (i := 33) (N := some 95) (v := ?_) (a' := ?_) qa34 rfl rfl (any_of HT_.out (by kernel_rfl)) (fun _ _ _ h => h) (Or.inl ⟨by rfl, ?_⟩) ?_ ?_; rotate_left
               ·intro w'; go_simp; with_reducible rfl
               rotate_left
               ·simp only [Act.put, qax, qay, qaz, i64_w, i32_w]; rfl
               refine pure_ (i := 34) (N := some 96) (v := ?_) (a' := ?_) qa35 rfl rfl (any_of HT_.out (by kernel_rfl)) (fun _ _ _ h => h) (Or.inl ⟨by rfl, ?_⟩) ?_ ?_; rotate_left
               ·intro w'; go_simp; with_reducible rfl
               rotate_left
               ·simp only [Act.put, qax, qay, qaz, i64_w, i32_w]; rfl
               refine pure_ (i := 35) (N := some 97) (v := ?_) (a' := ?_) qa36 rfl rfl (any_of HT_.out (by kernel_rfl)) (fun _ _ _ h => h) (Or.inl ⟨by rfl, ?_⟩) ?_ ?_; rotate_left
               ·intro w'; go_simp; with_reducible rfl
               rotate_left
               ·simp only [Act.put, qax, qay, qaz, i64_w, i32_w]; rfl
               refine pure_ (i := 36) (N := some 98) (v := ?_) (a' := ?_) qa37 rfl rfl (any_of HT_.out (by kernel_rfl)) (fun _ _ _ h => h) (Or.inl ⟨by rfl, ?_⟩) ?_ ?_; rotate_left
               ·intro w'; go_simp; with_reducible rfl
               rotate_left
               ·simp only [Act.put, qax, qay, qaz, i64_w, i32_w]; rfl
               refine pure_ (i := 37) (N := some 99) (v := ?_) (a' := ?_) qa38 rfl rfl (any_of HT_.out (by kernel_rfl)) (fun _ _ _ h => h) (Or.inl ⟨by rfl, ?_⟩) ?_ ?_; rotate_left
               ·intro w'; go_simp; with_reducible rfl
               rotate_left
               ·simp only [Act.put, qax, qay, qaz, i64_w, i32_w]; rfl
               refine pure_ (i := 38) (N := some 100) (v := undef) (a' := ?_) qa39 rfl rfl (any_of HT_.out (by kernel_rfl)) (fun _ _ _ h => h) (Or.inr ⟨by rfl, rfl⟩) ?_ ?_; rotate_left
               ·simp only [Act.put, qax, qay, qaz, i64_w, i32_w]; rfl
               refine pure_ (i := 39) (N := some 101) (v := undef) (a' := ?_) qa40 rfl rfl (any_of HT_.out (by kernel_rfl)) (fun _ _ _ h => h) (Or.inr ⟨by rfl, rfl⟩) ?_ ?_; rotate_left
               ·simp only [Act.put, qax, qay, qaz, i64_w, i32_w]; rfl
               refine pure_ (i := 40) (N := some 102) (v := undef) (a' := ?_) qa41 rfl rfl (any_of HT_.out (by kernel_rfl)) (fun _ _ _ h => h) (Or.inr ⟨by rfl, rfl⟩) ?_ ?_; rotate_left
               ·simp only [Act.put, qax, qay, qaz, i64_w, i32_w]; rfl
               refine pure_ (i := 41) (N := some 103) (v := undef) (a' := ?_) qa42 rfl rfl (any_of HT_.out (by kernel_rfl)) (fun _ _ _ h => h) (Or.inr ⟨by rfl, rfl⟩) ?_ ?_; rotate_left
               ·simp only [Act.put, qax, qay, qaz, i64_w, i32_w]; rfl
               refine pure_ (i := 42) (N := some 104) (v := undef) (a' := ?_) qa43 rfl rfl (any_of HT_.out (by kernel_rfl)) (fun _ _ _ h => h) (Or.inr ⟨by rfl, rfl⟩) ?_ ?_; rotate_left
               ·simp only [Act.put, qax, qay, qaz, i64_w, i32_w]; rfl
               refine pure_ (i := 43) (N := some 105) (v := undef) (a' := ?_) qa44 rfl rfl (any_of HT_.out (by kernel_rfl)) (fun _ _ _ h => h) (Or.inr ⟨by rfl, rfl⟩) ?_ ?_; rotate_left
               ·simp only [Act.put, qax, qay, qaz, i64_w, i32_w]; rfl
               refine pure_ (i := 44) (N := some 106) (v := undef) (a' := ?_) qa45 rfl rfl (any_of HT_.out (by kernel_rfl)) (fun _ _ _ h => h) (Or.inr ⟨by rfl, rfl⟩) ?_ ?_; rotate_left
               ·simp only [Act.put, qax, qay, qaz, i64_w, i32_w]; rfl
               refine pure_ (i := 45) (N := some 107) (v := undef) (a' := ?_) qa46 rfl rfl (any_of HT_.out (by kernel_rfl)) (fun _ _ _ h => h) (Or.inr ⟨by rfl, rfl⟩) ?_ ?_; rotate_left
               ·simp only [Act.put, qax, qay, qaz, i64_w, i32_w]; rfl
               refine pure_ (i := 46) (N := some 108) (v := undef) (a' := ?_) qa47 rfl rfl (any_of HT_.out (by kernel_rfl)) (fun _ _ _ h => h) (Or.inr ⟨by rfl, rfl⟩) ?_ ?_; rotate_left
               ·simp only [Act.put, qax, qay, qaz, i64_w, i32_w]; rfl
               refine pure_ (i := 47) (N := some 109) (v := undef) (a' := ?_) qa48 rfl rfl (any_of HT_.out (by kernel_rfl)) (fun _ _ _ h => h) (Or.inr ⟨by rfl, rfl⟩) ?_ ?_; rotate_left
               ·simp only [Act.put, qax, qay, qaz, i64_w, i32_w]; rfl
               refine pure_ (i := 48) (N := some 110) (v := undef) (a' := ?_) qa49 rfl rfl (any_of HT_.out (by kernel_rfl)) (fun _ _ _ h => h) (Or.inr ⟨by rfl, rfl⟩) ?_ ?_; rotate_left
               ·simp only [Act.put, qax, qay, qaz, i64_w, i32_w]; rfl
               refine pure_ (i := 49) (N := some 111) (v := undef) (a' := ?_) qa50 rfl rfl (any_of HT_.out (by kernel_rfl)) (fun _ _ _ h => h) (Or.inr ⟨by rfl, rfl⟩) ?_ ?_; rotate_left
               ·simp only [Act.put, qax, qay, qaz, i64_w, i32_w]; rfl
               refine pure_ (i := 50) (N := some 112) (v := undef) (a' := ?_) qa51 rfl rfl (any_of HT_.out (by kernel_rfl)) (fun _ _ _ h => h) (Or.inr ⟨by rfl, rfl⟩) ?_ ?_; rotate_left
               ·simp only [Act.put, qax, qay, qaz, i64_w, i32_w]; rfl
               refine pure_ (i := 51) (N := some 113) (v := undef) (a' := ?_) qa52 rfl rfl (any_of HT_.out (by kernel_rfl)) (fun _ _ _ h => h) (Or.inr ⟨by rfl, rfl⟩) ?_ ?_; rotate_left
               ·simp only [Act.put, qax, qay, qaz, i64_w, i32_w]; rfl
               refine pure_ (i := 52) (N := some 114) (v := undef) (a' := ?_) qa53 rfl rfl (any_of HT_.out (by kernel_rfl)) (fun _ _ _ h => h) (Or.inr ⟨by rfl, rfl⟩) ?_ ?_; rotate_left
               ·simp only [Act.put, qax, qay, qaz, i64_w, i32_w]; rfl
               refine pure_ (i := 53) (N := some 115) (v := undef) (a' := ?_) qa54 rfl rfl (any_of HT_.out (by kernel_rfl)) (fun _ _ _ h => h) (Or.inr ⟨by rfl, rfl⟩) ?_ ?_; rotate_left
               ·simp only [Act.put, qax, qay, qaz, i64_w, i32_w]; rfl
               refine pure_ (i := 54) (N := some 116) (v := undef) (a' := ?_) qa55 rfl rfl (any_of HT_.out (by kernel_rfl)) (fun _ _ _ h => h) (Or.inr ⟨by rfl, rfl⟩) ?_ ?_; rotate_left
               ·simp only [Act.put, qax, qay, qaz, i64_w, i32_w]; rfl
               refine pure_ (i := 55) (N := some 117) (v := undef) (a' := ?_) qa56 rfl rfl (any_of HT_.out (by kernel_rfl)) (fun _ _ _ h => h) (Or.inr ⟨by rfl, rfl⟩) ?_ ?_; rotate_left
               ·simp only [Act.put, qax, qay, qaz, i64_w, i32_w]; rfl
               refine pure_ (i := 56) (N := some 118) (v := undef) (a' := ?_) qa57 rfl rfl (any_of HT_.out (by kernel_rfl)) (fun _ _ _ h => h) (Or.inr ⟨by rfl, rfl⟩) ?_ ?_; rotate_left
               ·simp only [Act.put, qax, qay, qaz, i64_w, i32_w]; rfl
               refine pure_ (i := 57) (N := some 119) (v := undef) (a' := ?_) qa58 rfl rfl (any_of HT_.out (by kernel_rfl)) (fun _ _ _ h => h) (Or.inr ⟨by rfl, rfl⟩) ?_ ?_; rotate_left
               ·simp only [Act.put, qax, qay, qaz, i64_w, i32_w]; rfl
               refine pure_ (i := 58) (N := some 120) (v := undef) (a' := ?_) qa59 rfl rfl (any_of HT_.out (by kernel_rfl)) (fun _ _ _ h => h) (Or.inr ⟨by rfl, rfl⟩) ?_ ?_; rotate_left
               ·simp only [Act.put, qax, qay, qaz, i64_w, i32_w]; rfl
               refine pure_ (i := 59) (N := some 121) (v := ?_) (a' := ?_) qa60 rfl rfl (any_of HT_.out (by kernel_rfl)) (fun _ _ _ h => h) (Or.inl ⟨by rfl, ?_⟩) ?_ ?_; rotate_left
               ·intro w'; go_simp; with_reducible rfl
               rotate_left
               ·simp only [Act.put, qax, qay, qaz, i64_w, i32_w]; rfl
               refine done_ (done_of HT_.out (by kernel_rfl)) ?_
               try go_wp2
               go_meet
               case rel => exact ⟨_, (true), (by first | rfl | (simp; done) | (simp [*]; done)), H', ⟨by have := HJ4.out; have := HK2.out; first | omega | exact Nat.le_refl _⟩, ⟨by (with_reducible repeat (first | apply Kd.R_alloc | apply Kd.R_drewN | apply Kd.R_drew)); exact HO_7.out⟩, ⟨by repeat (first | (with_reducible first | exact HB.out | apply below_alloc | apply pw_below_drewN | apply below_drew1) | exact HB.out)⟩⟩
             ·rw [if_neg c30] at H
              exact absurd H (by simp)
            ·rw [if_neg c29] at H
             exact absurd H (by simp)
           ·as_aux_lemma =>
            rw [if_neg c27] at H
            have c27b0 : decide (0 < x10_2) = false := decide_eq_false c27
            clear c27
            have H' := Aside0.mk H
            clear H
            try go_wp2
            have n0_ := Aside0.mk (Kd.R_drew HO_7.out)
            have n1_ := Aside0.mk (below_drew1 HB.out)
            clear HO_7
            clear HB
            have HO_7 := n0_
            have HB := n1_
            clear n0_ n1_
            have p236 : 0 ≤ (x10_2 : Int) := of_decide_eq_true (by first | (with_reducible assumption) | assumption)
            have q236 : x10_2 < (t226.length : Int) := of_decide_eq_true (by first | (with_reducible assumption) | assumption)
            obtain ⟨ad236, e236, hx236_0, hx236_1⟩ := at_T51 (Kd.R_reads' HO_7.out).2.2 x10_2 p236 q236
            obtain rfl : ad232 = ad236 := (by injection e236)
            replace p236 := eq_true p236
            replace q236 := eq_true q236
            have p237 : 0 ≤ (x10_2 : Int) := of_decide_eq_true (by first | (with_reducible assumption) | assumption)
            have q237 : x10_2 < (t226.length : Int) := of_decide_eq_true (by first | (with_reducible assumption) | assumption)
            obtain ⟨ad237, e237, hx237_0, hx237_1⟩ := at_T51 (Kd.R_reads' HO_7.out).2.2 x10_2 p237 q237
            obtain rfl : ad232 = ad237 := (by injection e237)
            replace p237 := eq_true p237
            replace q237 := eq_true q237
            refine start_ (n := 60) (S := fun w' => w'.cell? (ad232.add ((x10_2).toNat * 2)) = some (.int .i64 ((rd_T51 t226 x10_2).f0)) ∧ w'.cell? ⟨(ad232.add ((x10_2).toNat * 2)).block, (ad232.add ((x10_2).toNat * 2)).off + 1, none⟩ = some (.int .i64 ((rd_T51 t226 x10_2).f1)) ∧ w'.cell? (ad232.add ((x10_2).toNat * 2)) = some (.int .i64 ((rd_T51 t226 x10_2).f0)) ∧ w'.cell? ⟨(ad232.add ((x10_2).toNat * 2)).block, (ad232.add ((x10_2).toNat * 2)).off + 1, none⟩ = some (.int .i64 ((rd_T51 t226 x10_2).f1))) (ds := []) qa0 (by kernel_rfl) rfl rfl ⟨hx236_0, hx236_1, hx237_0, hx237_1⟩ (fun hHeld => ?_); refine with_tabW quittancelaw11_ProrateTerm.tab9 quittancelaw11_ProrateTerm.bits9 (fun HT_ HW_ => ?_)
            generalize w22.drew = w36 at HO_7 HB hx236_0 hx236_1 hx237_0 hx237_1 hHeld ⊢
            refine pure_ (i := 0) (N := some 62) (v := ?_) (a' := ?_) qa1 rfl rfl (any_of HT_.out (by kernel_rfl)) (fun _ _ _ h => h) (Or.inl ⟨by rfl, ?_⟩) ?_ ?_; rotate_left
            ·intro w'; go_simp; with_reducible rfl
            rotate_left
            ·simp only [Act.put, qax, qay, qaz, i64_w, i32_w]; rfl
            refine pure_ (i := 1) (N := some 63) (v := ?_) (a' := ?_) qa2 rfl rfl (any_of HT_.out (by kernel_rfl)) (fun _ _ _ h => h) (Or.inl ⟨by rfl, ?_⟩) ?_ ?_; rotate_left
            ·intro w'; go_simp; with_reducible rfl
            rotate_left
            ·simp only [Act.put, qax, qay, qaz, i64_w, i32_w]; rfl
            refine pure_ (i := 2) (N := some 64) (v := ?_) (a' := ?_) qa3 rfl rfl (any_of HT_.out (by kernel_rfl)) (fun _ _ _ h => h) (Or.inl ⟨by rfl, ?_⟩) ?_ ?_; rotate_left
            ·intro w'; go_simp; with_reducible rfl
            rotate_left
            ·simp only [Act.put, qax, qay, qaz, i64_w, i32_w]; rfl
            refine pure_ (i := 3) (N := some 65) (v := ?_) (a' := ?_) qa4 rfl rfl (any_of HT_.out (by kernel_rfl)) (fun _ _ _ h => h) (Or.inl ⟨by rfl, ?_⟩) ?_ ?_; rotate_left
            ·intro w'; go_simp; with_reducible rfl
            rotate_left
            ·simp only [Act.put, qax, qay, qaz, i64_w, i32_w]; rfl
            refine take_ (i := 4) (N := some 66) (v := ?_) (a' := ?_) qa5 rfl rfl (take_ofW HT_.out HW_.out (by kernel_rfl)) (fun _ _ _ h => h) (Or.inl ⟨by rfl, ?_⟩) hHeld ?_ ?_; rotate_left
            ·rintro w' ⟨s0, s1, s2, s3⟩; go_simp; with_reducible rfl
            rotate_left
            ·simp only [Act.put, qax, qay, qaz, i64_w, i32_w]; rfl
            refine pure_ (i := 5) (N := some 67) (v := ?_) (a' := ?_) qa6 rfl rfl (any_of HT_.out (by kernel_rfl)) (fun _ _ _ h => h) (Or.inl ⟨by rfl, ?_⟩) ?_ ?_; rotate_left
            ·intro w'; go_simp; with_reducible rfl
            rotate_left
            ·simp only [Act.put, qax, qay, qaz, i64_w, i32_w]; rfl
            refine pure_ (i := 6) (N := some 68) (v := ?_) (a' := ?_) qa7 rfl rfl (any_of HT_.out (by kernel_rfl)) (fun _ _ _ h => h) (Or.inl ⟨by rfl, ?_⟩) ?_ ?_; rotate_left
            ·intro w'; go_simp; with_reducible rfl
            rotate_left
            ·simp only [Act.put, qax, qay, qaz, i64_w, i32_w]; rfl
            refine pure_ (i := 7) (N := some 69) (v := ?_) (a' := ?_) qa8 rfl rfl (any_of HT_.out (by kernel_rfl)) (fun _ _ _ h => h) (Or.inl ⟨by rfl, ?_⟩) ?_ ?_; rotate_left
            ·intro w'; go_simp; with_reducible rfl
            rotate_left
            ·simp only [Act.put, qax, qay, qaz, i64_w, i32_w]; rfl
            refine pure_ (i := 8) (N := some 70) (v := ?_) (a' := ?_) qa9 rfl rfl (any_of HT_.out (by kernel_rfl)) (fun _ _ _ h => h) (Or.inl ⟨by rfl, ?_⟩) ?_ ?_; rotate_left
            ·intro w'; go_simp; with_reducible rfl
            rotate_left
            ·simp only [Act.put, qax, qay, qaz, i64_w, i32_w]; rfl
            refine pure_ (i := 9) (N := some 71) (v := ?_) (a' := ?_) qa10 rfl rfl (any_of HT_.out (by kernel_rfl)) (fun _ _ _ h => h) (Or.inl ⟨by rfl, ?_⟩) ?_ ?_; rotate_left
            ·intro w'; go_simp; with_reducible rfl
            rotate_left
            ·simp only [Act.put, qax, qay, qaz, i64_w, i32_w]; rfl
            refine pure_ (i := 10) (N := some 72) (v := ?_) (a' := ?_) qa11 rfl rfl (any_of HT_.out (by kernel_rfl)) (fun _ _ _ h => h) (Or.inl ⟨by rfl, ?_⟩) ?_ ?_; rotate_left
            ·intro w'; go_simp; with_reducible rfl
            rotate_left
            ·simp only [Act.put, qax, qay, qaz, i64_w, i32_w]; rfl
            refine pure_ (i := 12) (N := some 74) (v := ?_) (a' := ?_) qa61 rfl rfl (any_of HT_.out (by kernel_rfl)) (fun _ _ _ h => h) (Or.inl ⟨by rfl, ?_⟩) ?_ ?_; rotate_left
            ·intro w'; go_simp; with_reducible rfl
            rotate_left
            ·simp only [Act.put, qax, qay, qaz, i64_w, i32_w]; rfl
            refine pure_ (i := 13) (N := some 75) (v := ?_) (a' := ?_) qa62 rfl rfl (any_of HT_.out (by kernel_rfl)) (fun _ _ _ h => h) (Or.inl ⟨by rfl, ?_⟩) ?_ ?_; rotate_left
            ·intro w'; go_simp; with_reducible rfl
            rotate_left
            ·simp only [Act.put, qax, qay, qaz, i64_w, i32_w]; rfl
            refine pure_ (i := 14) (N := some 76) (v := ?_) (a' := ?_) qa63 rfl rfl (any_of HT_.out (by kernel_rfl)) (fun _ _ _ h => h) (Or.inl ⟨by rfl, ?_⟩) ?_ ?_; rotate_left
            ·intro w'; go_simp; with_reducible rfl
            rotate_left
            ·simp only [Act.put, qax, qay, qaz, i64_w, i32_w]; rfl
            refine pure_ (i := 15) (N := some 77) (v := ?_) (a' := ?_) qa64 rfl rfl (any_of HT_.out (by kernel_rfl)) (fun _ _ _ h => h) (Or.inl ⟨by rfl, ?_⟩) ?_ ?_; rotate_left
            ·intro w'; go_simp; with_reducible rfl
            rotate_left
            ·simp only [Act.put, qax, qay, qaz, i64_w, i32_w]; rfl
            refine take_ (i := 11) (N := some 73) (v := ?_) (a' := ?_) qa16 rfl rfl (take_ofW HT_.out HW_.out (by kernel_rfl)) (fun _ _ _ h => h) (Or.inl ⟨by rfl, ?_⟩) hHeld ?_ ?_; rotate_left
            ·rintro w' ⟨s0, s1, s2, s3⟩; go_simp; with_reducible rfl
            rotate_left
            ·simp only [Act.put, qax, qay, qaz, i64_w, i32_w]; rfl
            refine pure_ (i := 16) (N := some 78) (v := ?_) (a' := ?_) qa17 rfl rfl (any_of HT_.out (by kernel_rfl)) (fun _ _ _ h => h) (Or.inl ⟨by rfl, ?_⟩) ?_ ?_; rotate_left
            ·intro w'; go_simp; with_reducible rfl
            rotate_left
            ·simp only [Act.put, qax, qay, qaz, i64_w, i32_w]; rfl
            refine pure_ (i := 17) (N := some 79) (v := ?_) (a' := ?_) qa18 rfl rfl (any_of HT_.out (by kernel_rfl)) (fun _ _ _ h => h) (Or.inl ⟨by rfl, ?_⟩) ?_ ?_; rotate_left
            ·intro w'; go_simp; with_reducible rfl
            rotate_left
            ·simp only [Act.put, qax, qay, qaz, i64_w, i32_w]; rfl
            refine pure_ (i := 18) (N := some 80) (v := ?_) (a' := ?_) qa19 rfl rfl (any_of HT_.out (by kernel_rfl)) (fun _ _ _ h => h) (Or.inl ⟨by rfl, ?_⟩) ?_ ?_; rotate_left
            ·intro w'; go_simp; with_reducible rfl
            rotate_left
            ·simp only [Act.put, qax, qay, qaz, i64_w, i32_w]; rfl
            refine pure_ (i := 19) (N := some 81) (v := ?_) (a' := ?_) qa20 rfl rfl (any_of HT_.out (by kernel_rfl)) (fun _ _ _ h => h) (Or.inl ⟨by rfl, ?_⟩) ?_ ?_; rotate_left
            ·intro w'; go_simp; with_reducible rfl
            rotate_left
            ·simp only [Act.put, qax, qay, qaz, i64_w, i32_w]; rfl
            refine pure_ (i := 20) (N := some 82) (v := ?_) (a' := ?_) qa21 rfl rfl (any_of HT_.out (by kernel_rfl)) (fun _ _ _ h => h) (Or.inl ⟨by rfl, ?_⟩) ?_ ?_; rotate_left
            ·intro w'; go_simp; with_reducible rfl
            rotate_left
            ·simp only [Act.put, qax, qay, qaz, i64_w, i32_w]; rfl
            refine pure_ (i := 21) (N := some 83) (v := ?_) (a' := ?_) qa22 rfl rfl (any_of HT_.out (by kernel_rfl)) (fun _ _ _ h => h) (Or.inl ⟨by rfl, ?_⟩) ?_ ?_; rotate_left
            ·intro w'; go_simp; with_reducible rfl
            rotate_left
            ·simp only [Act.put, qax, qay, qaz, i64_w, i32_w]; rfl
            refine pure_ (i := 22) (N := some 84) (v := undef) (a' := ?_) qa23 rfl rfl (any_of HT_.out (by kernel_rfl)) (fun _ _ _ h => h) (Or.inr ⟨by rfl, rfl⟩) ?_ ?_; rotate_left
            ·simp only [Act.put, qax, qay, qaz, i64_w, i32_w]; rfl
            refine pure_ (i := 23) (N := some 85) (v := undef) (a' := ?_) qa24 rfl rfl (any_of HT_.out (by kernel_rfl)) (fun _ _ _ h => h) (Or.inr ⟨by rfl, rfl⟩) ?_ ?_; rotate_left
            ·simp only [Act.put, qax, qay, qaz, i64_w, i32_w]; rfl
            refine pure_ (i := 24) (N := some 86) (v := undef) (a' := ?_) qa25 rfl rfl (any_of HT_.out (by kernel_rfl)) (fun _ _ _ h => h) (Or.inr ⟨by rfl, rfl⟩) ?_ ?_; rotate_left
            ·simp only [Act.put, qax, qay, qaz, i64_w, i32_w]; rfl
            refine pure_ (i := 25) (N := some 87) (v := undef) (a' := ?_) qa26 rfl rfl (any_of HT_.out (by kernel_rfl)) (fun _ _ _ h => h) (Or.inr ⟨by rfl, rfl⟩) ?_ ?_; rotate_left
            ·simp only [Act.put, qax, qay, qaz, i64_w, i32_w]; rfl
            refine pure_ (i := 26) (N := some 88) (v := undef) (a' := ?_) qa27 rfl rfl (any_of HT_.out (by kernel_rfl)) (fun _ _ _ h => h) (Or.inr ⟨by rfl, rfl⟩) ?_ ?_; rotate_left
            ·simp only [Act.put, qax, qay, qaz, i64_w, i32_w]; rfl
            refine pure_ (i := 27) (N := some 89) (v := undef) (a' := ?_) qa28 rfl rfl (any_of HT_.out (by kernel_rfl)) (fun _ _ _ h => h) (Or.inr ⟨by rfl, rfl⟩) ?_ ?_; rotate_left
            ·simp only [Act.put, qax, qay, qaz, i64_w, i32_w]; rfl
            refine pure_ (i := 28) (N := some 90) (v := undef) (a' := ?_) qa29 rfl rfl (any_of HT_.out (by kernel_rfl)) (fun _ _ _ h => h) (Or.inr ⟨by rfl, rfl⟩) ?_ ?_; rotate_left
            ·simp only [Act.put, qax, qay, qaz, i64_w, i32_w]; rfl
            refine pure_ (i := 29) (N := some 91) (v := undef) (a' := ?_) qa30 rfl rfl (any_of HT_.out (by kernel_rfl)) (fun _ _ _ h => h) (Or.inr ⟨by rfl, rfl⟩) ?_ ?_; rotate_left
            ·simp only [Act.put, qax, qay, qaz, i64_w, i32_w]; rfl
            refine pure_ (i := 30) (N := some 92) (v := undef) (a' := ?_) qa31 rfl rfl (any_of HT_.out (by kernel_rfl)) (fun _ _ _ h => h) (Or.inr ⟨by rfl, rfl⟩) ?_ ?_; rotate_left
            ·simp only [Act.put, qax, qay, qaz, i64_w, i32_w]; rfl
            refine pure_ (i := 31) (N := some 93) (v := undef) (a' := ?_) qa32 rfl rfl (any_of HT_.out (by kernel_rfl)) (fun _ _ _ h => h) (Or.inr ⟨by rfl, rfl⟩) ?_ ?_; rotate_left
            ·simp only [Act.put, qax, qay, qaz, i64_w, i32_w]; rfl
            refine pure_ (i := 32) (N := some 94) (v := undef) (a' := ?_) qa33 rfl rfl (any_of HT_.out (by kernel_rfl)) (fun _ _ _ h => h) (Or.inr ⟨by rfl, rfl⟩) ?_ ?_; rotate_left
            ·simp only [Act.put, qax, qay, qaz, i64_w, i32_w]; rfl
            refine pure_ (i := 33) (N := some 95) (v := undef) (a' := ?_) qa34 rfl rfl (any_of HT_.out (by kernel_rfl)) (fun _ _ _ h => h) (Or.inr ⟨by rfl, rfl⟩) ?_ ?_; rotate_left
            ·simp only [Act.put, qax, qay, qaz, i64_w, i32_w]; rfl
            refine pure_ (i := 34) (N := some 96) (v := undef) (a' := ?_) qa35 rfl rfl (any_of HT_.out (by kernel_rfl)) (fun _ _ _ h => h) (Or.inr ⟨by rfl, rfl⟩) ?_ ?_; rotate_left
            ·simp only [Act.put, qax, qay, qaz, i64_w, i32_w]; rfl
            refine pure_ (i := 35) (N := some 97) (v := ?_) (a' := ?_) qa36 rfl rfl (any_of HT_.out (by kernel_rfl)) (fun _ _ _ h => h) (Or.inl ⟨by rfl, ?_⟩) ?_ ?_; rotate_left
            ·intro w'; go_simp; with_reducible rfl
            rotate_left
            ·simp only [Act.put, qax, qay, qaz, i64_w, i32_w]; rfl
            refine pure_ (i := 36) (N := some 98) (v := ?_) (a' := ?_) qa37 rfl rfl (any_of HT_.out (by kernel_rfl)) (fun _ _ _ h => h) (Or.inl ⟨by rfl, ?_⟩) ?_ ?_; rotate_left
            ·intro w'; go_simp; with_reducible rfl
            rotate_left
            ·simp only [Act.put, qax, qay, qaz, i64_w, i32_w]; rfl
            refine pure_ (i := 37) (N := some 99) (v := ?_) (a' := ?_) qa38 rfl rfl (any_of HT_.out (by kernel_rfl)) (fun _ _ _ h => h) (Or.inl ⟨by rfl, ?_⟩) ?_ ?_; rotate_left
            ·intro w'; go_simp; with_reducible rfl
            rotate_left
            ·simp only [Act.put, qax, qay, qaz, i64_w, i32_w]; rfl
            refine pure_ (i := 38) (N := some 100) (v := ?_) (a' := ?_) qa39 rfl rfl (any_of HT_.out (by kernel_rfl)) (fun _ _ _ h => h) (Or.inl ⟨by rfl, ?_⟩) ?_ ?_; rotate_left
            ·intro w'; go_simp; with_reducible rfl
            rotate_left
            ·simp only [Act.put, qax, qay, qaz, i64_w, i32_w]; rfl
            refine pure_ (i := 39) (N := some 101) (v := ?_) (a' := ?_) qa40 rfl rfl (any_of HT_.out (by kernel_rfl)) (fun _ _ _ h => h) (Or.inl ⟨by rfl, ?_⟩) ?_ ?_; rotate_left
            ·intro w'; go_simp; with_reducible rfl
            rotate_left
            ·simp only [Act.put, qax, qay, qaz, i64_w, i32_w]; rfl
            refine pure_ (i := 40) (N := some 102) (v := ?_) (a' := ?_) qa41 rfl rfl (any_of HT_.out (by kernel_rfl)) (fun _ _ _ h => h) (Or.inl ⟨by rfl, ?_⟩) ?_ ?_; rotate_left
            ·intro w'; go_simp; with_reducible rfl
            rotate_left
            ·simp only [Act.put, qax, qay, qaz, i64_w, i32_w]; rfl
            refine pure_ (i := 41) (N := some 103) (v := undef) (a' := ?_) qa42 rfl rfl (any_of HT_.out (by kernel_rfl)) (fun _ _ _ h => h) (Or.inr ⟨by rfl, rfl⟩) ?_ ?_; rotate_left
            ·simp only [Act.put, qax, qay, qaz, i64_w, i32_w]; rfl
            refine pure_ (i := 42) (N := some 104) (v := undef) (a' := ?_) qa43 rfl rfl (any_of HT_.out (by kernel_rfl)) (fun _ _ _ h => h) (Or.inr ⟨by rfl, rfl⟩) ?_ ?_; rotate_left
            ·simp only [Act.put, qax, qay, qaz, i64_w, i32_w]; rfl
            refine pure_ (i := 43) (N := some 105) (v := undef) (a' := ?_) qa44 rfl rfl (any_of HT_.out (by kernel_rfl)) (fun _ _ _ h => h) (Or.inr ⟨by rfl, rfl⟩) ?_ ?_; rotate_left
            ·simp only [Act.put, qax, qay, qaz, i64_w, i32_w]; rfl
            refine pure_ (i := 44) (N := some 106) (v := undef) (a' := ?_) qa45 rfl rfl (any_of HT_.out (by kernel_rfl)) (fun _ _ _ h => h) (Or.inr ⟨by rfl, rfl⟩) ?_ ?_; rotate_left
            ·simp only [Act.put, qax, qay, qaz, i64_w, i32_w]; rfl
            refine pure_ (i := 45) (N := some 107) (v := undef) (a' := ?_) qa46 rfl rfl (any_of HT_.out (by kernel_rfl)) (fun _ _ _ h => h) (Or.inr ⟨by rfl, rfl⟩) ?_ ?_; rotate_left
            ·simp only [Act.put, qax, qay, qaz, i64_w, i32_w]; rfl
            refine pure_ (i := 46) (N := some 108) (v := ?_) (a' := ?_) qa47 rfl rfl (any_of HT_.out (by kernel_rfl)) (fun _ _ _ h => h) (Or.inl ⟨by rfl, ?_⟩) ?_ ?_; rotate_left
            ·intro w'; go_simp; with_reducible rfl
            rotate_left
            ·simp only [Act.put, qax, qay, qaz, i64_w, i32_w]; rfl
            refine pure_ (i := 47) (N := some 109) (v := ?_) (a' := ?_) qa48 rfl rfl (any_of HT_.out (by kernel_rfl)) (fun _ _ _ h => h) (Or.inl ⟨by rfl, ?_⟩) ?_ ?_; rotate_left
            ·intro w'; go_simp; with_reducible rfl
            rotate_left
            ·simp only [Act.put, qax, qay, qaz, i64_w, i32_w]; rfl
            refine pure_ (i := 48) (N := some 110) (v := undef) (a' := ?_) qa49 rfl rfl (any_of HT_.out (by kernel_rfl)) (fun _ _ _ h => h) (Or.inr ⟨by rfl, rfl⟩) ?_ ?_; rotate_left
            ·simp only [Act.put, qax, qay, qaz, i64_w, i32_w]; rfl
            refine pure_ (i := 49) (N := some 111) (v := undef) (a' := ?_) qa50 rfl rfl (any_of HT_.out (by kernel_rfl)) (fun _ _ _ h => h) (Or.inr ⟨by rfl, rfl⟩) ?_ ?_; rotate_left
            ·simp only [Act.put, qax, qay, qaz, i64_w, i32_w]; rfl
            refine pure_ (i := 50) (N := some 112) (v := undef) (a' := ?_) qa51 rfl rfl (any_of HT_.out (by kernel_rfl)) (fun _ _ _ h => h) (Or.inr ⟨by rfl, rfl⟩) ?_ ?_; rotate_left
            ·simp only [Act.put, qax, qay, qaz, i64_w, i32_w]; rfl
            refine pure_ (i := 51) (N := some 113) (v := undef) (a' := ?_) qa52 rfl rfl (any_of HT_.out (by kernel_rfl)) (fun _ _ _ h => h) (Or.inr ⟨by rfl, rfl⟩) ?_ ?_; rotate_left
            ·simp only [Act.put, qax, qay, qaz, i64_w, i32_w]; rfl
            refine pure_ (i := 52) (N := some 114) (v := undef) (a' := ?_) qa53 rfl rfl (any_of HT_.out (by kernel_rfl)) (fun _ _ _ h => h) (Or.inr ⟨by rfl, rfl⟩) ?_ ?_; rotate_left
            ·simp only [Act.put, qax, qay, qaz, i64_w, i32_w]; rfl
            refine pure_ (i := 53) (N := some 115) (v := undef) (a' := ?_) qa54 rfl rfl (any_of HT_.out (by kernel_rfl)) (fun _ _ _ h => h) (Or.inr ⟨by rfl, rfl⟩) ?_ ?_; rotate_left
            ·simp only [Act.put, qax, qay, qaz, i64_w, i32_w]; rfl
            refine pure_ (i := 54) (N := some 116) (v := undef) (a' := ?_) qa55 rfl rfl (any_of HT_.out (by kernel_rfl)) (fun _ _ _ h => h) (Or.inr ⟨by rfl, rfl⟩) ?_ ?_; rotate_left
            ·simp only [Act.put, qax, qay, qaz, i64_w, i32_w]; rfl
            refine pure_ (i := 55) (N := some 117) (v := undef) (a' := ?_) qa56 rfl rfl (any_of HT_.out (by kernel_rfl)) (fun _ _ _ h => h) (Or.inr ⟨by rfl, rfl⟩) ?_ ?_; rotate_left
            ·simp only [Act.put, qax, qay, qaz, i64_w, i32_w]; rfl
            refine pure_ (i := 56) (N := some 118) (v := undef) (a' := ?_) qa57 rfl rfl (any_of HT_.out (by kernel_rfl)) (fun _ _ _ h => h) (Or.inr ⟨by rfl, rfl⟩) ?_ ?_; rotate_left
            ·simp only [Act.put, qax, qay, qaz, i64_w, i32_w]; rfl
            refine pure_ (i := 57) (N := some 119) (v := undef) (a' := ?_) qa58 rfl rfl (any_of HT_.out (by kernel_rfl)) (fun _ _ _ h => h) (Or.inr ⟨by rfl, rfl⟩) ?_ ?_; rotate_left
            ·simp only [Act.put, qax, qay, qaz, i64_w, i32_w]; rfl
            refine pure_ (i := 58) (N := some 120) (v := ?_) (a' := ?_) qa59 rfl rfl (any_of HT_.out (by kernel_rfl)) (fun _ _ _ h => h) (Or.inl ⟨by rfl, ?_⟩) ?_ ?_; rotate_left
            ·intro w'; go_simp; with_reducible rfl
            rotate_left
            ·simp only [Act.put, qax, qay, qaz, i64_w, i32_w]; rfl
            refine pure_ (i := 59) (N := some 121) (v := ?_) (a' := ?_) qa60 rfl rfl (any_of HT_.out (by kernel_rfl)) (fun _ _ _ h => h) (Or.inl ⟨by rfl, ?_⟩) ?_ ?_; rotate_left
            ·intro w'; go_simp; with_reducible rfl
            rotate_left
            ·simp only [Act.put, qax, qay, qaz, i64_w, i32_w]; rfl
            refine done_ (done_of HT_.out (by kernel_rfl)) ?_
            try go_wp2
            go_meet
            case rel => exact ⟨_, (false), (by first | rfl | (simp; done) | (simp [*]; done)), H', ⟨by have := HJ4.out; have := HK2.out; first | omega | exact Nat.le_refl _⟩, ⟨by (with_reducible repeat (first | apply Kd.R_alloc | apply Kd.R_drewN | apply Kd.R_drew)); exact HO_7.out⟩, ⟨by repeat (first | (with_reducible first | exact HB.out | apply below_alloc | apply pw_below_drewN | apply below_drew1) | exact HB.out)⟩⟩
        case rest =>
         clear HC20
         try clear c2
         try clear p2
         try clear q2
         try clear hx2
         try clear c3
         try clear p23
         try clear q23
         try clear hx23
         try clear c27
         try clear c27b0
         try clear c29
         try clear c30
         try clear hx236_0
         try clear hx236_1
         try clear hx237_0
         try clear hx237_1
         try clear p236
         try clear p237
         try clear q236
         try clear q237
         obtain ⟨kq, x121_19, rfl, HA, HJ19, HO_7, HB⟩ := hcut
         cases kq with
         | zero => exact absurd HA.out (by simp [quittancelaw11_ProrateTerm.j2])
         | succ kj19 =>
          have H := HA.out
          clear HA
          simp only [quittancelaw11_ProrateTerm.j2] at H
          by_cases c37 : x121_19 = true
          ·subst c37
           have H1 : (some false) = some r := by rw [if_pos rfl] at H; exact H
           clear H
           have H := H1
           clear H1
           obtain rfl := Option.some.inj H
           go_wp2
           go_ret
           exact ⟨by first | rfl | (simp [errW_none, errW_some] <;> rfl) | (simp [*, errW_none, errW_some] <;> rfl), by repeat (first | (with_reducible first | exact HB.out | apply below_alloc | apply pw_below_drewN | apply below_drew1) | exact HB.out)⟩
          ·replace c37 := Bool.eq_false_iff.mpr c37
           subst c37
           have H1 : (if 0 ≤ x10_2 then (if x10_2 < (t226.length : Int) then (quittancelaw11_ProrateTerm.l0 kj19 a0 a1 a2 t226 (wrap64 (x9_2 + ((rd_T51 t226 x10_2).f1))) (wrap64 (x10_2 + 1))) else (none)) else (none)) = some r := by rw [if_neg (show ¬ (false = true) by decide)] at H; exact H
           clear H
           have H := H1
           clear H1
           by_cases c38 : 0 ≤ x10_2
           ·rw [if_pos c38] at H
            have c38b0 : decide (0 ≤ x10_2) = true := decide_eq_true c38
            clear c38
            by_cases c39 : x10_2 < (t226.length : Int)
            ·rw [if_pos c39] at H
             have c39b0 : decide (x10_2 < (t226.length : Int)) = true := decide_eq_true c39
             clear c39
             have H' := Aside0.mk H
             clear H
             have p241 : 0 ≤ (x10_2 : Int) := of_decide_eq_true (by first | (with_reducible assumption) | assumption)
             have q241 : x10_2 < (t226.length : Int) := of_decide_eq_true (by first | (with_reducible assumption) | assumption)
             obtain ⟨ad241, e241, hx241_0, hx241_1⟩ := at_T51 (Kd.R_reads' HO_7.out).2.2 x10_2 p241 q241
             obtain rfl : ad232 = ad241 := (by injection e241)
             replace p241 := eq_true p241
             replace q241 := eq_true q241
             go_wp2
             go_roundg kj19
             case measure => have := HJ4.out; have := HK2.out; have := HJ19.out; omega
             case rel => exact ⟨(wrap64 (x9_2 + ((rd_T51 t226 x10_2).f1))), (wrap64 (x10_2 + 1)), (by first | rfl | (simp; done) | (simp [*]; done)), (by first | rfl | (simp; done) | (simp [*]; done)), H', ⟨by have := HJ4.out; have := HK2.out; have := HJ19.out; omega⟩, ⟨by (with_reducible repeat (first | apply Kd.R_alloc | apply Kd.R_drewN | apply Kd.R_drew)); exact HO_7.out⟩, ⟨by repeat (first | (with_reducible first | exact HB.out | apply below_alloc | apply pw_below_drewN | apply below_drew1) | exact HB.out)⟩⟩
            ·rw [if_neg c39] at H
             exact absurd H (by simp)
           ·rw [if_neg c38] at H
            exact absurd H (by simp)
       ·rw [if_neg c18] at H
        exact absurd H (by simp)
      ·as_aux_lemma =>
       rw [if_neg c17] at H
       have c17b0 : decide (x10_2 < (t226.length : Int)) = false := decide_eq_false c17
       clear c17
       replace H := Option.bind_eq_some_iff.mp H
       obtain ⟨⟨t242, t243⟩, A400, H⟩ := H
       replace H : (if x9_2 = (wrap64 (a1 - a0)) then (if (t226.length : Int) = 0 then (quittancelaw11_ProrateTerm.j3 k2 a0 a1 a2 t226 true) else (if 0 < (t226.length : Int) then (quittancelaw11_ProrateTerm.j3 k2 a0 a1 a2 t226 (((rd_T51 t226 0).f0) != t242)) else (none))) else (quittancelaw11_ProrateTerm.j3 k2 a0 a1 a2 t226 true)) = some r := H
       have A40 := Aside0.mk A400
       clear A400
       have HC41 := Aside0.mk H
       clear H
       obtain ⟨Ao42, co42, eo42⟩ := Kd.R_slice HO_7.out
       subst eo42
       go_upto_region 13 with (first | ((with_reducible refine gate_callee (f := 21) rfl ?_); refine goesL_ (some 131) rfl rfl Tryd.func21 (by kernel_rfl) rfl #[.int .i64 a0] rfl (by (try simp only [List.map_toArray, List.map_cons, List.map_nil]); first | done | rfl | (simp only [List.length_drop, List.length_take]; rfl)) ?_; (with_reducible refine (quittanceref08_Of.calls a0 t242 t243 _ A40.out).mono ?_); rintro e w' ⟨rfl, ⟨nd, rfl⟩⟩; refine ⟨_, rfl, ?_⟩))
       (try simp only [Act.put, List.setIfInBounds_toArray, List.set_cons_zero, List.set_cons_succ])
       go_cut [151] (fun v151 wc => ∃ (kq : Nat) (x151_40 : Bool), v151 = .bool x151_40 ∧ Aside0 (quittancelaw11_ProrateTerm.j3 kq a0 a1 a2 t226 x151_40 = some r) ∧ Aside0 (kq ≤ k2) ∧ Aside0 (Kd.R k51 51 wc w.heap.size (fun _ => True) (.slice Ao42 t226.length co42) t226) ∧ Aside0 (Below w.heap.size w wc))
       case first =>
        have H := HC41.out
        clear HC41
        by_cases c43 : x9_2 = (wrap64 (a1 - a0))
        ·as_aux_lemma =>
         rw [if_pos c43] at H
         have c43b0 : (x9_2 == (wrap64 (a1 - a0))) = true := beq_iff_eq.mpr c43
         have c43b1 : (x9_2 != (wrap64 (a1 - a0))) = false := bne_eq_false_iff_eq.mpr c43
         clear c43
         (first | rw [c43b0] | (simp only [i64_w, i32_w]; rw [c43b0]) | skip)
         by_cases c44 : (t226.length : Int) = 0
         ·rw [if_pos c44] at H
          have c44b0 : ((t226.length : Int) == 0) = true := beq_iff_eq.mpr c44
          have c44b1 : ((t226.length : Int) != 0) = false := bne_eq_false_iff_eq.mpr c44
          clear c44
          have H' := Aside0.mk H
          clear H
          go_wp2
          go_meet
          case rel => exact ⟨_, (true), (by first | rfl | (simp; done) | (simp [*]; done)), H', ⟨by have := HJ4.out; have := HK2.out; first | omega | exact Nat.le_refl _⟩, ⟨by (with_reducible repeat (first | apply Kd.R_alloc | apply Kd.R_drewN | apply Kd.R_drew)); exact HO_7.out⟩, ⟨by repeat (first | (with_reducible first | exact HB.out | apply below_alloc | apply pw_below_drewN | apply below_drew1) | exact HB.out)⟩⟩
         ·as_aux_lemma =>
          rw [if_neg c44] at H
          have c44b0 : ((t226.length : Int) == 0) = false := beq_eq_false_iff_ne.mpr c44
          have c44b1 : ((t226.length : Int) != 0) = true := bne_iff_ne.mpr c44
          have c44b2 : ¬ (t226 = []) := fun h_ => c44 (by rw [h_]; rfl)
          by_cases c45 : 0 < (t226.length : Int)
          ·rw [if_pos c45] at H
           have c45b0 : decide (0 < (t226.length : Int)) = true := decide_eq_true c45
           have c45b1 : decide (0 < t226.length) = true := decide_eq_true (by omega)
           clear c45
           have H' := Aside0.mk H
           clear H
           have p244 : 0 ≤ (0 : Int) := (by omega)
           have q244 : 0 < (t226.length : Int) := of_decide_eq_true (by first | (with_reducible assumption) | assumption)
           obtain ⟨ad244, e244, hx244_0, hx244_1⟩ := at_T51 (Kd.R_reads' HO_7.out).2.2 0 p244 q244
           cases e244
           have qi244 : (0 < t226.length) = True := eq_true (by omega)
           (try rw [show ((0 : Int)).toNat = 0 from rfl] at hx244_0)
           (try rw [show 0 * 2 = 0 from rfl] at hx244_0)
           (try rw [Addr.add_zero'] at hx244_0)
           (try rw [show ((0 : Int)).toNat = 0 from rfl] at hx244_1)
           (try rw [show 0 * 2 = 0 from rfl] at hx244_1)
           (try rw [Addr.add_zero'] at hx244_1)
           replace p244 := eq_true p244
           replace q244 := eq_true q244
           go_wp2
           go_meet
           case rel => exact ⟨_, ((((rd_T51 t226 0).f0) != t242)), (by first | rfl | (simp; done) | (simp [*]; done)), H', ⟨by have := HJ4.out; have := HK2.out; first | omega | exact Nat.le_refl _⟩, ⟨by (with_reducible repeat (first | apply Kd.R_alloc | apply Kd.R_drewN | apply Kd.R_drew)); exact HO_7.out⟩, ⟨by repeat (first | (with_reducible first | exact HB.out | apply below_alloc | apply pw_below_drewN | apply below_drew1) | exact HB.out)⟩⟩
          ·rw [if_neg c45] at H
           exact absurd H (by simp)
        ·rw [if_neg c43] at H
         have c43b0 : (x9_2 == (wrap64 (a1 - a0))) = false := beq_eq_false_iff_ne.mpr c43
         have c43b1 : (x9_2 != (wrap64 (a1 - a0))) = true := bne_iff_ne.mpr c43
         (first | rw [c43b0] | (simp only [i64_w, i32_w]; rw [c43b0]) | skip)
         have H' := Aside0.mk H
         clear H
         go_wp2
         go_meet
         case rel => exact ⟨_, (true), (by first | rfl | (simp; done) | (simp [*]; done)), H', ⟨by have := HJ4.out; have := HK2.out; first | omega | exact Nat.le_refl _⟩, ⟨by (with_reducible repeat (first | apply Kd.R_alloc | apply Kd.R_drewN | apply Kd.R_drew)); exact HO_7.out⟩, ⟨by repeat (first | (with_reducible first | exact HB.out | apply below_alloc | apply pw_below_drewN | apply below_drew1) | exact HB.out)⟩⟩
       case rest =>
        clear HC41
        try clear c1
        try clear c2
        try clear p2
        try clear q2
        try clear hx2
        try clear qi2
        try clear c3
        try clear c4
        try clear p6
        try clear c17
        try clear c17b0
        try clear c18
        try clear c21
        try clear p23
        try clear q23
        try clear hx23
        try clear p24
        try clear q24
        try clear hx24
        try clear qi24
        try clear c27
        try clear c27b0
        try clear c29
        try clear c30
        try clear c37
        try clear c38
        try clear c38b0
        try clear c39
        try clear c39b0
        try clear c43
        try clear c43b0
        try clear c43b1
        try clear c44
        try clear c44b0
        try clear c44b1
        try clear c44b2
        try clear c45
        try clear c45b0
        try clear c45b1
        try clear hx236_0
        try clear hx236_1
        try clear hx237_0
        try clear hx237_1
        try clear hx241_0
        try clear hx241_1
        try clear hx244_0
        try clear hx244_1
        try clear p2
        try clear p23
        try clear p236
        try clear p237
        try clear p241
        try clear p244
        try clear q2
        try clear q23
        try clear q236
        try clear q237
        try clear q241
        try clear q244
        obtain ⟨kq, x151_40, rfl, HA, HJ40, HO_7, HB⟩ := hcut
        cases kq with
        | zero => exact absurd HA.out (by simp [quittancelaw11_ProrateTerm.j3])
        | succ kj40 =>
         have H := HA.out
         clear HA
         simp only [quittancelaw11_ProrateTerm.j3] at H
         by_cases c46 : x151_40 = true
         ·subst c46
          have H1 : (some false) = some r := by rw [if_pos rfl] at H; exact H
          clear H
          have H := H1
          clear H1
          obtain rfl := Option.some.inj H
          go_wp2
          go_ret
          exact ⟨by first | rfl | (simp [errW_none, errW_some] <;> rfl) | (simp [*, errW_none, errW_some] <;> rfl), by repeat (first | (with_reducible first | exact HB.out | apply below_alloc | apply pw_below_drewN | apply below_drew1) | exact HB.out)⟩
         ·replace c46 := Bool.eq_false_iff.mpr c46
          subst c46
          have H1 : (if (wrap64 (a1 - a0)) = 0 then (none) else (if (wrap64 (a0 + (Int.tmod a2 (wrap64 (a1 - a0))))) ≤ a0 then ((quittancelaw11_head.f kj40).bind fun t245 => (some t245)) else ((prorate_Months.f a0 (wrap64 (a0 + (Int.tmod a2 (wrap64 (a1 - a0)))))).bind fun bt246 => ((prorate_Months.f (wrap64 (a0 + (Int.tmod a2 (wrap64 (a1 - a0))))) a1).bind fun bt250 => (if bt246.2 = 0 then (if bt250.2 = 0 then (if (bt246.1.length : Int) = 0 then (quittancelaw11_ProrateTerm.j4 kj40 t226 bt246.1 bt250.1 true) else (quittancelaw11_ProrateTerm.j4 kj40 t226 bt246.1 bt250.1 ((bt250.1.length : Int) == 0))) else (quittancelaw11_ProrateTerm.j4 kj40 t226 bt246.1 bt250.1 true)) else (quittancelaw11_ProrateTerm.j4 kj40 t226 bt246.1 bt250.1 true)))))) = some r := by rw [if_neg (show ¬ (false = true) by decide)] at H; exact H
          clear H
          have H := H1
          clear H1
          by_cases c47 : (wrap64 (a1 - a0)) = 0
          ·rw [if_pos c47] at H
           exact absurd H (by simp)
          ·as_aux_lemma =>
           rw [if_neg c47] at H
           have c47b0 : ((wrap64 (a1 - a0)) == 0) = false := beq_eq_false_iff_ne.mpr c47
           have c47b1 : ((wrap64 (a1 - a0)) != 0) = true := bne_iff_ne.mpr c47
           by_cases c48 : (wrap64 (a0 + (Int.tmod a2 (wrap64 (a1 - a0))))) ≤ a0
           ·rw [if_pos c48] at H
            have c48b0 : decide ((wrap64 (a0 + (Int.tmod a2 (wrap64 (a1 - a0))))) ≤ a0) = true := decide_eq_true c48
            clear c48
            replace H := Option.bind_eq_some_iff.mp H
            obtain ⟨t245, A490, H⟩ := H
            replace H : (some t245) = some r := H
            have A49 := Aside0.mk A490
            clear A490
            obtain rfl := Option.some.inj H
            go_wp2_with (first | ((with_reducible refine gate_callee (f := 13) rfl ?_); refine goesL_ (some 162) rfl rfl Tryd.func13 (by kernel_rfl) rfl #[] rfl (by (try simp only [List.map_toArray, List.map_cons, List.map_nil]); first | done | rfl | (simp only [List.length_drop, List.length_take]; rfl)) ?_; (with_reducible refine (quittancelaw11_head.calls kj40  t245 _ (Tab.b HTab (by repeat (first | (with_reducible first | exact HB.out | apply below_alloc | apply pw_below_drewN | apply below_drew1) | exact HB.out))) A49.out).mono ?_); rintro e w50 ⟨rfl, hb⟩; refine ⟨_, rfl, ?_⟩; have n0_ := Aside0.mk (Kd.R_below (by (with_reducible repeat (first | apply Kd.R_alloc | apply Kd.R_drewN | apply Kd.R_drew)); exact HO_7.out) hb); have n1_ := Aside0.mk (below_step (by repeat (first | (with_reducible first | exact HB.out | apply below_alloc | apply pw_below_drewN | apply below_drew1) | exact HB.out)) hb); clear HO_7; clear HB; have HO_7 := n0_; have HB := n1_; clear n0_ n1_; (try clear hb); (try clear hb2); (try clear hk); (try clear hi)))
            go_ret
            exact ⟨by first | rfl | (simp [errW_none, errW_some] <;> rfl) | (simp [*, errW_none, errW_some] <;> rfl), by repeat (first | (with_reducible first | exact HB.out | apply below_alloc | apply pw_below_drewN | apply below_drew1) | exact HB.out)⟩
           ·as_aux_lemma =>
            rw [if_neg c48] at H
            have c48b0 : decide ((wrap64 (a0 + (Int.tmod a2 (wrap64 (a1 - a0))))) ≤ a0) = false := decide_eq_false c48
            clear c48
            replace H := Option.bind_eq_some_iff.mp H
            obtain ⟨⟨t246, t247⟩, A510, H⟩ := H
            replace H : ((prorate_Months.f (wrap64 (a0 + (Int.tmod a2 (wrap64 (a1 - a0))))) a1).bind fun bt250 => (if t247 = 0 then (if bt250.2 = 0 then (if (t246.length : Int) = 0 then (quittancelaw11_ProrateTerm.j4 kj40 t226 t246 bt250.1 true) else (quittancelaw11_ProrateTerm.j4 kj40 t226 t246 bt250.1 ((bt250.1.length : Int) == 0))) else (quittancelaw11_ProrateTerm.j4 kj40 t226 t246 bt250.1 true)) else (quittancelaw11_ProrateTerm.j4 kj40 t226 t246 bt250.1 true))) = some r := H
            have A51 := Aside0.mk A510
            clear A510
            replace H := Option.bind_eq_some_iff.mp H
            obtain ⟨⟨t250, t251⟩, A520, H⟩ := H
            replace H : (if t247 = 0 then (if t251 = 0 then (if (t246.length : Int) = 0 then (quittancelaw11_ProrateTerm.j4 kj40 t226 t246 t250 true) else (quittancelaw11_ProrateTerm.j4 kj40 t226 t246 t250 ((t250.length : Int) == 0))) else (quittancelaw11_ProrateTerm.j4 kj40 t226 t246 t250 true)) else (quittancelaw11_ProrateTerm.j4 kj40 t226 t246 t250 true)) = some r := H
            have A52 := Aside0.mk A520
            clear A520
            have HC53 := Aside0.mk H
            clear H
            go_upto_region 20 with (first | ((with_reducible refine gate_callee (f := 16) rfl ?_); refine goesL_ (some 166) rfl rfl Tryd.func16 (by kernel_rfl) rfl #[.int .i64 a0, .int .i64 (wrap64 (a0 + (Int.tmod a2 (wrap64 (a1 - a0)))))] rfl (by (try simp only [List.map_toArray, List.map_cons, List.map_nil]); first | done | rfl | (simp only [List.length_drop, List.length_take]; rfl)) ?_; (with_reducible refine (prorate_Months.calls a0 (wrap64 (a0 + (Int.tmod a2 (wrap64 (a1 - a0))))) t246 t247 _ (Tab.b HTab (by repeat (first | (with_reducible first | exact HB.out | apply below_alloc | apply pw_below_drewN | apply below_drew1) | exact HB.out))) A51.out).mono ?_); rintro e w54 ⟨v248, rfl, ho0, hb⟩; refine ⟨_, rfl, ?_⟩; have n0_ := Aside0.mk (Kd.R_elder' (by (with_reducible repeat (first | apply Kd.R_alloc | apply Kd.R_drewN | apply Kd.R_drew)); exact HO_7.out) (Kd.R_base ho0) hb); have n1_ := Aside0.mk (Kd.R_lower (Kd.R_new' ho0 (Kd.R_lt (by (with_reducible repeat (first | apply Kd.R_alloc | apply Kd.R_drewN | apply Kd.R_drew)); exact HO_7.out))) (below_size (by repeat (first | (with_reducible first | exact HB.out | apply below_alloc | apply pw_below_drewN | apply below_drew1) | exact HB.out)))); have n2_ := Aside0.mk (below_step (by repeat (first | (with_reducible first | exact HB.out | apply below_alloc | apply pw_below_drewN | apply below_drew1) | exact HB.out)) hb); clear HO_7; clear HB; have HO_7 := n0_; have HO249 := n1_; have HB := n2_; clear n0_ n1_ n2_; (try clear hb); (try clear hb2); (try clear hk); (try clear hi); (try clear ho0)) | ((with_reducible refine gate_callee (f := 16) rfl ?_); refine goesL_ (some 172) rfl rfl Tryd.func16 (by kernel_rfl) rfl #[.int .i64 (wrap64 (a0 + (Int.tmod a2 (wrap64 (a1 - a0))))), .int .i64 a1] rfl (by (try simp only [List.map_toArray, List.map_cons, List.map_nil]); first | done | rfl | (simp only [List.length_drop, List.length_take]; rfl)) ?_; (with_reducible refine (prorate_Months.calls (wrap64 (a0 + (Int.tmod a2 (wrap64 (a1 - a0))))) a1 t250 t251 _ (Tab.b HTab (by repeat (first | (with_reducible first | exact HB.out | apply below_alloc | apply pw_below_drewN | apply below_drew1) | exact HB.out))) A52.out).mono ?_); rintro e w55 ⟨v252, rfl, ho0, hb⟩; refine ⟨_, rfl, ?_⟩; have n0_ := Aside0.mk (Kd.R_elder' (by (with_reducible repeat (first | apply Kd.R_alloc | apply Kd.R_drewN | apply Kd.R_drew)); exact HO_7.out) (Kd.R_base ho0) hb); have n1_ := Aside0.mk (Kd.R_elder' (by (with_reducible repeat (first | apply Kd.R_alloc | apply Kd.R_drewN | apply Kd.R_drew)); exact HO249.out) (Kd.R_base ho0) hb); have n2_ := Aside0.mk (Kd.R_lower (Kd.R_new' (Kd.R_new' ho0 (Kd.R_lt (by (with_reducible repeat (first | apply Kd.R_alloc | apply Kd.R_drewN | apply Kd.R_drew)); exact HO_7.out))) (Kd.R_lt (by (with_reducible repeat (first | apply Kd.R_alloc | apply Kd.R_drewN | apply Kd.R_drew)); exact HO249.out))) (below_size (by repeat (first | (with_reducible first | exact HB.out | apply below_alloc | apply pw_below_drewN | apply below_drew1) | exact HB.out)))); have n3_ := Aside0.mk (below_step (by repeat (first | (with_reducible first | exact HB.out | apply below_alloc | apply pw_below_drewN | apply below_drew1) | exact HB.out)) hb); clear HO_7; clear HO249; clear HB; have HO_7 := n0_; have HO249 := n1_; have HO253 := n2_; have HB := n3_; clear n0_ n1_ n2_ n3_; (try clear hb); (try clear hb2); (try clear hk); (try clear hi); (try clear ho0)))
            (try simp only [Act.put, List.setIfInBounds_toArray, List.set_cons_zero, List.set_cons_succ])
            go_cut [190] (fun v190 wc => ∃ (kq : Nat) (x190_52 : Bool), v190 = .bool x190_52 ∧ Aside0 (quittancelaw11_ProrateTerm.j4 kq t226 t246 t250 x190_52 = some r) ∧ Aside0 (kq ≤ kj40) ∧ Aside0 (Kd.R k51 51 wc w.heap.size (fun k_ => some k_ ≠ (v248 : Value).ownBlock ∧ some k_ ≠ (v252 : Value).ownBlock) (.slice Ao42 t226.length co42) t226) ∧ Aside0 (Kd.R k51 51 wc w.heap.size (fun k_ => some k_ ≠ ((.slice Ao42 t226.length co42) : Value).ownBlock ∧ some k_ ≠ (v252 : Value).ownBlock) v248 t246) ∧ Aside0 (Kd.R k51 51 wc w.heap.size (fun k_ => some k_ ≠ ((.slice Ao42 t226.length co42) : Value).ownBlock ∧ some k_ ≠ (v248 : Value).ownBlock) v252 t250) ∧ Aside0 (Below w.heap.size w wc))
            case first =>
             have H := HC53.out
             clear HC53
             by_cases c56 : t247 = 0
             ·as_aux_lemma =>
              rw [if_pos c56] at H
              have c56b0 : (t247 == 0) = true := beq_iff_eq.mpr c56
              have c56b1 : (t247 != 0) = false := bne_eq_false_iff_eq.mpr c56
              clear c56
              (first | rw [c56b0] | (simp only [i64_w, i32_w]; rw [c56b0]) | skip)
              by_cases c57 : t251 = 0
              ·as_aux_lemma =>
               rw [if_pos c57] at H
               have c57b0 : (t251 == 0) = true := beq_iff_eq.mpr c57
               have c57b1 : (t251 != 0) = false := bne_eq_false_iff_eq.mpr c57
               clear c57
               by_cases c58 : (t246.length : Int) = 0
               ·rw [if_pos c58] at H
                have c58b0 : ((t246.length : Int) == 0) = true := beq_iff_eq.mpr c58
                have c58b1 : ((t246.length : Int) != 0) = false := bne_eq_false_iff_eq.mpr c58
                clear c58
                have H' := Aside0.mk H
                clear H
                obtain ⟨Ao59, co59, eo59⟩ := Kd.R_slice HO249.out
                subst eo59
                go_wp2
                go_meet
                case rel => exact ⟨_, (true), (by first | rfl | (simp; done) | (simp [*]; done)), H', ⟨by have := HJ4.out; have := HK2.out; have := HJ40.out; first | omega | exact Nat.le_refl _⟩, ⟨by (with_reducible repeat (first | apply Kd.R_alloc | apply Kd.R_drewN | apply Kd.R_drew)); exact Kd.R_mono HO_7.out (fun _ hk => ⟨hk.1.2, hk.2⟩)⟩, ⟨by (with_reducible repeat (first | apply Kd.R_alloc | apply Kd.R_drewN | apply Kd.R_drew)); exact Kd.R_mono HO249.out (fun _ hk => ⟨hk.1.2, hk.2⟩)⟩, ⟨by (with_reducible repeat (first | apply Kd.R_alloc | apply Kd.R_drewN | apply Kd.R_drew)); exact Kd.R_mono HO253.out (fun _ hk => ⟨hk.1.2, hk.2⟩)⟩, ⟨by repeat (first | (with_reducible first | exact HB.out | apply below_alloc | apply pw_below_drewN | apply below_drew1) | exact HB.out)⟩⟩
               ·rw [if_neg c58] at H
                have c58b0 : ((t246.length : Int) == 0) = false := beq_eq_false_iff_ne.mpr c58
                have c58b1 : ((t246.length : Int) != 0) = true := bne_iff_ne.mpr c58
                have c58b2 : ¬ (t246 = []) := fun h_ => c58 (by rw [h_]; rfl)
                have H' := Aside0.mk H
                clear H
                obtain ⟨Ao60, co60, eo60⟩ := Kd.R_slice HO249.out
                subst eo60
                obtain ⟨Ao61, co61, eo61⟩ := Kd.R_slice HO253.out
                subst eo61
                go_wp2
                go_meet
                case rel => exact ⟨_, (((t250.length : Int) == 0)), (by first | rfl | (simp; done) | (simp [*]; done)), H', ⟨by have := HJ4.out; have := HK2.out; have := HJ40.out; first | omega | exact Nat.le_refl _⟩, ⟨by (with_reducible repeat (first | apply Kd.R_alloc | apply Kd.R_drewN | apply Kd.R_drew)); exact Kd.R_mono HO_7.out (fun _ hk => ⟨hk.1.2, hk.2⟩)⟩, ⟨by (with_reducible repeat (first | apply Kd.R_alloc | apply Kd.R_drewN | apply Kd.R_drew)); exact Kd.R_mono HO249.out (fun _ hk => ⟨hk.1.2, hk.2⟩)⟩, ⟨by (with_reducible repeat (first | apply Kd.R_alloc | apply Kd.R_drewN | apply Kd.R_drew)); exact Kd.R_mono HO253.out (fun _ hk => ⟨hk.1.2, hk.2⟩)⟩, ⟨by repeat (first | (with_reducible first | exact HB.out | apply below_alloc | apply pw_below_drewN | apply below_drew1) | exact HB.out)⟩⟩
              ·rw [if_neg c57] at H
               have c57b0 : (t251 == 0) = false := beq_eq_false_iff_ne.mpr c57
               have c57b1 : (t251 != 0) = true := bne_iff_ne.mpr c57
               have H' := Aside0.mk H
               clear H
               go_wp2
               go_meet
               case rel => exact ⟨_, (true), (by first | rfl | (simp; done) | (simp [*]; done)), H', ⟨by have := HJ4.out; have := HK2.out; have := HJ40.out; first | omega | exact Nat.le_refl _⟩, ⟨by (with_reducible repeat (first | apply Kd.R_alloc | apply Kd.R_drewN | apply Kd.R_drew)); exact Kd.R_mono HO_7.out (fun _ hk => ⟨hk.1.2, hk.2⟩)⟩, ⟨by (with_reducible repeat (first | apply Kd.R_alloc | apply Kd.R_drewN | apply Kd.R_drew)); exact Kd.R_mono HO249.out (fun _ hk => ⟨hk.1.2, hk.2⟩)⟩, ⟨by (with_reducible repeat (first | apply Kd.R_alloc | apply Kd.R_drewN | apply Kd.R_drew)); exact Kd.R_mono HO253.out (fun _ hk => ⟨hk.1.2, hk.2⟩)⟩, ⟨by repeat (first | (with_reducible first | exact HB.out | apply below_alloc | apply pw_below_drewN | apply below_drew1) | exact HB.out)⟩⟩
             ·rw [if_neg c56] at H
              have c56b0 : (t247 == 0) = false := beq_eq_false_iff_ne.mpr c56
              have c56b1 : (t247 != 0) = true := bne_iff_ne.mpr c56
              (first | rw [c56b0] | (simp only [i64_w, i32_w]; rw [c56b0]) | skip)
              have H' := Aside0.mk H
              clear H
              go_wp2
              go_meet
              case rel => exact ⟨_, (true), (by first | rfl | (simp; done) | (simp [*]; done)), H', ⟨by have := HJ4.out; have := HK2.out; have := HJ40.out; first | omega | exact Nat.le_refl _⟩, ⟨by (with_reducible repeat (first | apply Kd.R_alloc | apply Kd.R_drewN | apply Kd.R_drew)); exact Kd.R_mono HO_7.out (fun _ hk => ⟨hk.1.2, hk.2⟩)⟩, ⟨by (with_reducible repeat (first | apply Kd.R_alloc | apply Kd.R_drewN | apply Kd.R_drew)); exact Kd.R_mono HO249.out (fun _ hk => ⟨hk.1.2, hk.2⟩)⟩, ⟨by (with_reducible repeat (first | apply Kd.R_alloc | apply Kd.R_drewN | apply Kd.R_drew)); exact Kd.R_mono HO253.out (fun _ hk => ⟨hk.1.2, hk.2⟩)⟩, ⟨by repeat (first | (with_reducible first | exact HB.out | apply below_alloc | apply pw_below_drewN | apply below_drew1) | exact HB.out)⟩⟩
            case rest =>
             clear HC53
             try clear c1
             try clear c2
             try clear p2
             try clear q2
             try clear hx2
             try clear qi2
             try clear c3
             try clear c4
             try clear c5
             try clear p6
             try clear c13
             try clear c16
             try clear c17
             try clear c17b0
             try clear c18
             try clear c21
             try clear p23
             try clear q23
             try clear hx23
             try clear p24
             try clear q24
             try clear hx24
             try clear qi24
             try clear c27
             try clear c27b0
             try clear c29
             try clear c30
             try clear c37
             try clear c38
             try clear c38b0
             try clear c39
             try clear c39b0
             try clear c43
             try clear c43b0
             try clear c43b1
             try clear c44
             try clear c44b0
             try clear c44b1
             try clear c44b2
             try clear c45
             try clear c45b0
             try clear c45b1
             try clear c46
             try clear c47
             try clear c47b0
             try clear c47b1
             try clear c48
             try clear c48b0
             try clear c56
             try clear c56b0
             try clear c56b1
             try clear c57
             try clear c57b0
             try clear c57b1
             try clear c58
             try clear c58b0
             try clear c58b1
             try clear c58b2
             try clear hx236_0
             try clear hx236_1
             try clear hx237_0
             try clear hx237_1
             try clear hx241_0
             try clear hx241_1
             try clear hx244_0
             try clear hx244_1
             try clear p2
             try clear p23
             try clear p236
             try clear p237
             try clear p24
             try clear p241
             try clear p244
             try clear p6
             try clear q2
             try clear q23
             try clear q236
             try clear q237
             try clear q24
             try clear q241
             try clear q244
             obtain ⟨kq, x190_52, rfl, HA, HJ52, HO_7, HO_17, HO_19, HB⟩ := hcut
             cases kq with
             | zero => exact absurd HA.out (by simp [quittancelaw11_ProrateTerm.j4])
             | succ kj52 =>
              have H := HA.out
              clear HA
              simp only [quittancelaw11_ProrateTerm.j4] at H
              by_cases c62 : x190_52 = true
              ·subst c62
               have H1 : (some false) = some r := by rw [if_pos rfl] at H; exact H
               clear H
               have H := H1
               clear H1
               obtain rfl := Option.some.inj H
               go_wp2
               go_ret
               exact ⟨by first | rfl | (simp [errW_none, errW_some] <;> rfl) | (simp [*, errW_none, errW_some] <;> rfl), by repeat (first | (with_reducible first | exact HB.out | apply below_alloc | apply pw_below_drewN | apply below_drew1) | exact HB.out)⟩
              ·replace c62 := Bool.eq_false_iff.mpr c62
               subst c62
               have H1 : (if 0 ≤ (wrap64 ((t246.length : Int) - 1)) then (if (wrap64 ((t246.length : Int) - 1)) < (t246.length : Int) then (if 0 < (t250.length : Int) then (if ((rd_T51 t246 (wrap64 ((t246.length : Int) - 1))).f0) = ((rd_T51 t250 0).f0) then (if (wrap64 ((t246.length : Int) - 1)) ≤ (t246.length : Int) then (quittancelaw11_ProrateTerm.j5 kj52 t226 (t246.take ((wrap64 ((t246.length : Int) - 1)) : Int).toNat) (t250.set (0 : Int).toNat (⟨(rd_T51 t250 0).f0, wrap64 (((rd_T51 t250 0).f1) + ((rd_T51 t246 (wrap64 ((t246.length : Int) - 1))).f1))⟩ : S51))) else (none)) else (quittancelaw11_ProrateTerm.j5 kj52 t226 t246 t250)) else (none)) else (none)) else (none)) = some r := by rw [if_neg (show ¬ (false = true) by decide)] at H; exact H
               clear H
               have H := H1
               clear H1
               obtain ⟨ji63, hji63⟩ : ∃ j_ : Int, (wrap64 ((t246.length : Int) - 1)) = j_ := ⟨_, rfl⟩
               replace H : (if 0 ≤ (ji63) then (if (ji63) < (t246.length : Int) then (if 0 < (t250.length : Int) then (if ((rd_T51 t246 (ji63)).f0) = ((rd_T51 t250 0).f0) then (if (ji63) ≤ (t246.length : Int) then (quittancelaw11_ProrateTerm.j5 kj52 t226 (t246.take ((ji63) : Int).toNat) (t250.set (0 : Int).toNat (⟨(rd_T51 t250 0).f0, wrap64 (((rd_T51 t250 0).f1) + ((rd_T51 t246 (ji63)).f1))⟩ : S51))) else (none)) else (quittancelaw11_ProrateTerm.j5 kj52 t226 t246 t250)) else (none)) else (none)) else (none)) = some r := by first | (rw [hji63] at H; exact H) | (simp only [hji63] at H ⊢; exact H)
               have hji63w : (IntKind.i64.wrap ((t246.length : Int) - 1)) = ji63 := (i64_w _).trans hji63
               by_cases c64 : 0 ≤ (ji63)
               ·as_aux_lemma =>
                rw [if_pos c64] at H
                have c64b0 : decide (0 ≤ (ji63)) = true := decide_eq_true c64
                clear c64
                by_cases c65 : (ji63) < (t246.length : Int)
                ·as_aux_lemma =>
                 rw [if_pos c65] at H
                 have c65b0 : decide ((ji63) < (t246.length : Int)) = true := decide_eq_true c65
                 clear c65
                 by_cases c66 : 0 < (t250.length : Int)
                 ·as_aux_lemma =>
                  rw [if_pos c66] at H
                  have c66b0 : decide (0 < (t250.length : Int)) = true := decide_eq_true c66
                  have c66b1 : decide (0 < t250.length) = true := decide_eq_true (by omega)
                  clear c66
                  have HC67 := Aside0.mk H
                  clear H
                  obtain ⟨Ao68, co68, eo68⟩ := Kd.R_slice HO_17.out
                  subst eo68
                  try go_wp2
                  have n0_ := Aside0.mk (Kd.R_drew HO_7.out)
                  have n1_ := Aside0.mk (Kd.R_drew HO_17.out)
                  have n2_ := Aside0.mk (Kd.R_drew HO_19.out)
                  have n3_ := Aside0.mk (below_drew1 HB.out)
                  clear HO_7
                  clear HO_17
                  clear HO_19
                  clear HB
                  have HO_7 := n0_
                  have HO_17 := n1_
                  have HO_19 := n2_
                  have HB := n3_
                  clear n0_ n1_ n2_ n3_
                  have p254 : 0 ≤ ((ji63) : Int) := of_decide_eq_true (by first | (with_reducible assumption) | assumption)
                  have q254 : (ji63) < (t246.length : Int) := of_decide_eq_true (by first | (with_reducible assumption) | assumption)
                  obtain ⟨ad254, e254, hx254_0, hx254_1⟩ := at_T51 (Kd.R_reads' HO_17.out).2.2 (ji63) p254 q254
                  cases e254
                  replace p254 := eq_true p254
                  replace q254 := eq_true q254
                  obtain ⟨Ao70, co70, eo70⟩ := Kd.R_slice HO_19.out
                  (first | subst eo70 | (injection eo70 with f1_ f2_ f3_; have f4_ := f1_.symm; have f5_ := f3_.symm; clear f1_ f2_ f3_; subst f4_; subst f5_))
                  have p255 : 0 ≤ (0 : Int) := (by omega)
                  have q255 : 0 < (t250.length : Int) := of_decide_eq_true (by first | (with_reducible assumption) | assumption)
                  obtain ⟨ad255, e255, hx255_0, hx255_1⟩ := at_T51 (Kd.R_reads' HO_19.out).2.2 0 p255 q255
                  cases e255
                  have qi255 : (0 < t250.length) = True := eq_true (by omega)
                  (try rw [show ((0 : Int)).toNat = 0 from rfl] at hx255_0)
                  (try rw [show 0 * 2 = 0 from rfl] at hx255_0)
                  (try rw [Addr.add_zero'] at hx255_0)
                  (try rw [show ((0 : Int)).toNat = 0 from rfl] at hx255_1)
                  (try rw [show 0 * 2 = 0 from rfl] at hx255_1)
                  (try rw [Addr.add_zero'] at hx255_1)
                  replace p255 := eq_true p255
                  replace q255 := eq_true q255
                  refine start_ (n := 10) (S := fun w' => w'.cell? (ad254.add (((ji63)).toNat * 2)) = some (.int .i64 ((rd_T51 t246 (ji63)).f0)) ∧ w'.cell? ⟨(ad254.add (((ji63)).toNat * 2)).block, (ad254.add (((ji63)).toNat * 2)).off + 1, none⟩ = some (.int .i64 ((rd_T51 t246 (ji63)).f1)) ∧ w'.cell? ad255 = some (.int .i64 ((rd_T51 t250 0).f0)) ∧ w'.cell? ⟨ad255.block, ad255.off + 1, none⟩ = some (.int .i64 ((rd_T51 t250 0).f1))) (ds := []) qa74 (by kernel_rfl) rfl rfl ⟨hx254_0, hx254_1, hx255_0, hx255_1⟩ (fun hHeld => ?_); refine with_tabW quittancelaw11_ProrateTerm.tab23 quittancelaw11_ProrateTerm.bits23 (fun HT_ HW_ => ?_)
                  generalize wc.drew = w69 at HO_7 HO_17 HO_19 HB hx254_0 hx254_1 hx255_0 hx255_1 hHeld ⊢
                  refine pure_ (i := 0) (N := some 194) (v := ?_) (a' := ?_) qa75 rfl rfl (any_of HT_.out (by kernel_rfl)) (fun _ _ _ h => h) (Or.inl ⟨by rfl, ?_⟩) ?_ ?_; rotate_left
                  ·intro w'; go_simp; with_reducible rfl
                  rotate_left
                  ·simp only [Act.put, qax, qay, qaz, i64_w, i32_w]; rfl
                  refine pure_ (i := 1) (N := some 195) (v := ?_) (a' := ?_) qa76 rfl rfl (any_of HT_.out (by kernel_rfl)) (fun _ _ _ h => h) (Or.inl ⟨by rfl, ?_⟩) ?_ ?_; rotate_left
                  ·intro w'; go_simp; with_reducible rfl
                  rotate_left
                  ·simp only [Act.put, qax, qay, qaz, i64_w, i32_w]; rfl
                  refine pure_ (i := 2) (N := some 196) (v := ?_) (a' := ?_) qa77 rfl rfl (any_of HT_.out (by kernel_rfl)) (fun _ _ _ h => h) (Or.inl ⟨by rfl, ?_⟩) ?_ ?_; rotate_left
                  ·intro w'; go_simp; with_reducible rfl
                  rotate_left
                  ·simp only [Act.put, qax, qay, qaz, i64_w, i32_w]; rfl
                  refine pure_ (i := 3) (N := some 197) (v := ?_) (a' := ?_) qa78 rfl rfl (any_of HT_.out (by kernel_rfl)) (fun _ _ _ h => h) (Or.inl ⟨by rfl, ?_⟩) ?_ ?_; rotate_left
                  ·intro w'; go_simp; with_reducible rfl
                  rotate_left
                  ·simp only [Act.put, qax, qay, qaz, i64_w, i32_w]; rfl
                  refine pure_ (i := 5) (N := some 199) (v := ?_) (a' := ?_) qa79 rfl rfl (any_of HT_.out (by kernel_rfl)) (fun _ _ _ h => h) (Or.inl ⟨by rfl, ?_⟩) ?_ ?_; rotate_left
                  ·intro w'; go_simp; with_reducible rfl
                  rotate_left
                  ·simp only [Act.put, qax, qay, qaz, i64_w, i32_w]; rfl
                  refine pure_ (i := 6) (N := some 200) (v := ?_) (a' := ?_) qa80 rfl rfl (any_of HT_.out (by kernel_rfl)) (fun _ _ _ h => h) (Or.inl ⟨by rfl, ?_⟩) ?_ ?_; rotate_left
                  ·intro w'; go_simp; with_reducible rfl
                  rotate_left
                  ·simp only [Act.put, qax, qay, qaz, i64_w, i32_w]; rfl
                  refine pure_ (i := 7) (N := some 201) (v := ?_) (a' := ?_) qa81 rfl rfl (any_of HT_.out (by kernel_rfl)) (fun _ _ _ h => h) (Or.inl ⟨by rfl, ?_⟩) ?_ ?_; rotate_left
                  ·intro w'; go_simp; with_reducible rfl
                  rotate_left
                  ·simp only [Act.put, qax, qay, qaz, i64_w, i32_w]; rfl
                  refine take_ (i := 4) (N := some 198) (v := ?_) (a' := ?_) qa82 rfl rfl (take_ofW HT_.out HW_.out (by kernel_rfl)) (fun _ _ _ h => h) (Or.inl ⟨by rfl, ?_⟩) hHeld ?_ ?_; rotate_left
                  ·rintro w' ⟨s0, s1, s2, s3⟩; go_simp; with_reducible rfl
                  rotate_left
                  ·simp only [Act.put, qax, qay, qaz, i64_w, i32_w]; rfl
                  refine take_ (i := 8) (N := some 202) (v := ?_) (a' := ?_) qa83 rfl rfl (take_ofW HT_.out HW_.out (by kernel_rfl)) (fun _ _ _ h => h) (Or.inl ⟨by rfl, ?_⟩) hHeld ?_ ?_; rotate_left
                  ·rintro w' ⟨s0, s1, s2, s3⟩; go_simp; with_reducible rfl
                  rotate_left
                  ·simp only [Act.put, qax, qay, qaz, i64_w, i32_w]; rfl
                  refine pure_ (i := 9) (N := some 203) (v := ?_) (a' := ?_) qa84 rfl rfl (any_of HT_.out (by kernel_rfl)) (fun _ _ _ h => h) (Or.inl ⟨by rfl, ?_⟩) ?_ ?_; rotate_left
                  ·intro w'; go_simp; with_reducible rfl
                  rotate_left
                  ·simp only [Act.put, qax, qay, qaz, i64_w, i32_w]; rfl
                  refine done_ (done_of HT_.out (by kernel_rfl)) ?_
                  go_upto_if 203 with (fail)
                  go_cut [17] (fun v17 wc => ∃ (kq : Nat) (x17_66 : List (S51)) (x19_66 : List (S51)), Aside0 (quittancelaw11_ProrateTerm.j5 kq t226 x17_66 x19_66 = some r) ∧ Aside0 (kq ≤ kj52) ∧ Aside0 (Kd.R k51 51 wc w.heap.size (fun k_ => some k_ ≠ (v17 : Value).ownBlock ∧ some k_ ≠ ((.slice (some ad255) t250.length co70) : Value).ownBlock) (.slice Ao42 t226.length co42) t226) ∧ Aside0 (Kd.R k51 51 wc w.heap.size (fun k_ => some k_ ≠ ((.slice Ao42 t226.length co42) : Value).ownBlock ∧ some k_ ≠ ((.slice (some ad255) t250.length co70) : Value).ownBlock) v17 x17_66) ∧ Aside0 (Kd.R k51 51 wc w.heap.size (fun k_ => some k_ ≠ ((.slice Ao42 t226.length co42) : Value).ownBlock ∧ some k_ ≠ (v17 : Value).ownBlock) (.slice (some ad255) t250.length co70) x19_66) ∧ Aside0 (Below w.heap.size w wc))
                  case first =>
                   have H := HC67.out
                   clear HC67
                   by_cases c71 : ((rd_T51 t246 (ji63)).f0) = ((rd_T51 t250 0).f0)
                   ·as_aux_lemma =>
                    rw [if_pos c71] at H
                    have c71b0 : (((rd_T51 t246 (ji63)).f0) == ((rd_T51 t250 0).f0)) = true := beq_iff_eq.mpr c71
                    have c71b1 : (((rd_T51 t246 (ji63)).f0) != ((rd_T51 t250 0).f0)) = false := bne_eq_false_iff_eq.mpr c71
                    clear c71
                    (first | rw [c71b0] | (simp only [i64_w, i32_w]; rw [c71b0]) | skip)
                    obtain ⟨y258, hy258⟩ : ∃ y_ : List (S51), y_ = (t250.set (0 : Int).toNat (⟨(rd_T51 t250 0).f0, wrap64 (((rd_T51 t250 0).f1) + ((rd_T51 t246 (ji63)).f1))⟩ : S51)) := ⟨_, rfl⟩
                    replace H : (if (ji63) ≤ (t246.length : Int) then (quittancelaw11_ProrateTerm.j5 kj52 t226 (t246.take ((ji63) : Int).toNat) y258) else (none)) = some r := by first | (rw [hy258]; with_reducible exact H) | (have H2_ := (Option.bind_some _ _).symm.trans H; rw [hy258]; with_reducible exact H2_) | (have H2_ := (Option.bind_some _ _).symm.trans H; with_reducible exact H2_) | with_reducible exact H | (rw [hy258]; exact H) | exact H
                    have Ny258 := Aside0.mk hy258
                    clear hy258
                    by_cases c73 : (ji63) ≤ (t246.length : Int)
                    ·as_aux_lemma =>
                     rw [if_pos c73] at H
                     have c73b0 := eq_true c73
                     have c73b1 : decide ((ji63) ≤ (t246.length : Int)) = true := decide_eq_true c73
                     clear c73
                     obtain ⟨y259, hy259⟩ : ∃ y_ : List (S51), y_ = (t246.take ((ji63) : Int).toNat) := ⟨_, rfl⟩
                     replace H : (quittancelaw11_ProrateTerm.j5 kj52 t226 y259 y258) = some r := by first | (rw [hy259]; with_reducible exact H) | (have H2_ := (Option.bind_some _ _).symm.trans H; rw [hy259]; with_reducible exact H2_) | (have H2_ := (Option.bind_some _ _).symm.trans H; with_reducible exact H2_) | with_reducible exact H | (rw [hy259]; exact H) | exact H
                     have Ny259 := Aside0.mk hy259
                     clear hy259
                     have H' := Aside0.mk H
                     clear H
                     try go_wp2
                     have n0_ := Aside0.mk (Kd.R_drew HO_7.out)
                     have n1_ := Aside0.mk (Kd.R_drew HO_17.out)
                     have n2_ := Aside0.mk (Kd.R_drew HO_19.out)
                     have n3_ := Aside0.mk (below_drew1 HB.out)
                     clear HO_7
                     clear HO_17
                     clear HO_19
                     clear HB
                     have HO_7 := n0_
                     have HO_17 := n1_
                     have HO_19 := n2_
                     have HB := n3_
                     clear n0_ n1_ n2_ n3_
                     have p256 : 0 ≤ (0 : Int) := (by omega)
                     have q256 : 0 < (t250.length : Int) := of_decide_eq_true (by first | (with_reducible assumption) | assumption)
                     obtain ⟨ad256, e256, hx256_0, hx256_1⟩ := at_T51 (Kd.R_reads' HO_19.out).2.2 0 p256 q256
                     obtain rfl : ad255 = ad256 := (by injection e256)
                     have qi256 : (0 < t250.length) = True := eq_true (by omega)
                     (try rw [show ((0 : Int)).toNat = 0 from rfl] at hx256_0)
                     (try rw [show 0 * 2 = 0 from rfl] at hx256_0)
                     (try rw [Addr.add_zero'] at hx256_0)
                     (try rw [show ((0 : Int)).toNat = 0 from rfl] at hx256_1)
                     (try rw [show 0 * 2 = 0 from rfl] at hx256_1)
                     (try rw [Addr.add_zero'] at hx256_1)
                     replace p256 := eq_true p256
                     replace q256 := eq_true q256
                     have p257 : 0 ≤ ((ji63) : Int) := of_decide_eq_true (by first | (with_reducible assumption) | assumption)
                     have q257 : (ji63) < (t246.length : Int) := of_decide_eq_true (by first | (with_reducible assumption) | assumption)
                     obtain ⟨ad257, e257, hx257_0, hx257_1⟩ := at_T51 (Kd.R_reads' HO_17.out).2.2 (ji63) p257 q257
                     obtain rfl : ad254 = ad257 := (by injection e257)
                     replace p257 := eq_true p257
                     replace q257 := eq_true q257
                     have p72 : 0 ≤ (0 : Int) := (by omega)
                     have q72 : (0 : Int) < ((t250.length : Int) : Int) := of_decide_eq_true (by first | (with_reducible assumption) | assumption)
                     have qi72 : (0 < t250.length) = True := eq_true (by omega)
                     obtain ⟨go72, co72, eo72, gb72, gl72, cl72, HG72⟩ := Kd.R_form HO_19.out (by omega)
                     (first | cases eo72 | (injection eo72 with ea_ en_ ec_; (first | subst ea_ | (injection ea_ with ea_; subst ea_)); subst ec_; clear en_))
                     have GB72 := Aside0.mk gb72
                     have GG72 := Aside0.mk HG72
                     clear gb72 gl72 HG72
                     (first | simp only [add_plain] at hx255_0 | skip)
                     (first | simp only [add_plain] at hx255_1 | skip)
                     (first | simp only [add_plain] at hx256_0 | skip)
                     (first | simp only [add_plain] at hx256_1 | skip)
                     obtain ⟨ce72, hcl72, hM72, hcc72, hfr72⟩ := Kd.R_elem HO_19.out z51 (0 : Int) p72 q72
                     obtain rfl := k51_openM hM72
                     have hx72_0 : World.cell? _ ⟨go72, (0 : Int).toNat * 2, none⟩ = some (.int .i64 ((rd_T51 t250 0).f0)) := hcc72 0 _ rfl
                     have hx72_1 : World.cell? _ ⟨go72, (0 : Int).toNat * 2 + 1, none⟩ = some (.int .i64 ((rd_T51 t250 0).f1)) := hcc72 1 _ rfl
                     have hf72_0 : World.frozen? _ ⟨go72, (0 : Int).toNat * 2, none⟩ = false := hfr72 0
                     have hf72_1 : World.frozen? _ ⟨go72, (0 : Int).toNat * 2 + 1, none⟩ = false := hfr72 1
                     clear hcl72 hcc72 hfr72 hM72
                     (try rw [show ((0 : Int)).toNat = 0 from rfl] at hx72_0)
                     (try simp only [Nat.reduceMul, Nat.zero_mul, Nat.zero_add, Nat.reduceAdd] at hx72_0)
                     (try rw [show ((0 : Int)).toNat = 0 from rfl] at hf72_0)
                     (try simp only [Nat.reduceMul, Nat.zero_mul, Nat.zero_add, Nat.reduceAdd] at hf72_0)
                     (try rw [show ((0 : Int)).toNat = 0 from rfl] at hx72_1)
                     (try simp only [Nat.reduceMul, Nat.zero_mul, Nat.zero_add, Nat.reduceAdd] at hx72_1)
                     (try rw [show ((0 : Int)).toNat = 0 from rfl] at hf72_1)
                     (try simp only [Nat.reduceMul, Nat.zero_mul, Nat.zero_add, Nat.reduceAdd] at hf72_1)
                     replace p72 := eq_true p72
                     replace q72 := eq_true q72
                     obtain ⟨ce75, hcl75, hM75, hcc75, hfr75⟩ := Kd.R_elem HO_19.out z51 (0 : Int) (by omega) (by have h_ : (0 : Int) < ((t250.length : Int) : Int) := of_decide_eq_true (by first | (with_reducible assumption) | assumption); first | exact h_ | (have e_ := (Kd.R_reads' HO_19.out).1; omega) | simpa using h_)
                     obtain rfl := k51_openM hM75
                     have HP75 := (Kd.R_seg HO_19.out (0 : Int) (by omega) (by have h_ : (0 : Int) < ((t250.length : Int) : Int) := of_decide_eq_true (by first | (with_reducible assumption) | assumption); first | exact h_ | (have e_ := (Kd.R_reads' HO_19.out).1; omega) | simpa using h_) (seg := [.int .i64 (wrap64 (((rd_T51 t250 0).f1) + ((rd_T51 t246 (ji63)).f1)))]) (j := 1) hcl75 hcc75 (show 2 ≤ 2 from by decide) (x' := (⟨(rd_T51 t250 0).f0, wrap64 (((rd_T51 t250 0).f1) + ((rd_T51 t246 (ji63)).f1))⟩ : S51)) (k51_mkM _ _ _ (⟨(rd_T51 t250 0).f0, wrap64 (((rd_T51 t250 0).f1) + ((rd_T51 t246 (ji63)).f1))⟩ : S51) ) (fun _ hk => hk)).1
                     rw [← Ny258.out] at HP75
                     have HQ75 := Aside0.mk HP75
                     clear hcl75 hcc75 hfr75 hM75 HP75
                     refine start_ (n := 14) (S := fun w' => w'.cell? ⟨go72, 0, none⟩ = some (.int .i64 ((rd_T51 t250 0).f0)) ∧ w'.cell? ⟨go72, 1, none⟩ = some (.int .i64 ((rd_T51 t250 0).f1)) ∧ w'.cell? (ad254.add (((ji63)).toNat * 2)) = some (.int .i64 ((rd_T51 t246 (ji63)).f0)) ∧ w'.cell? ⟨(ad254.add (((ji63)).toNat * 2)).block, (ad254.add (((ji63)).toNat * 2)).off + 1, none⟩ = some (.int .i64 ((rd_T51 t246 (ji63)).f1))) (ds := [13]) qa85 (by kernel_rfl) rfl rfl ⟨hx256_0, hx256_1, hx257_0, hx257_1⟩ (fun hHeld => ?_); refine with_tabW quittancelaw11_ProrateTerm.tab24 quittancelaw11_ProrateTerm.bits24 (fun HT_ HW_ => ?_)
                     generalize w69.drew = w74 at HO_7 HO_17 HO_19 HB GG72 HQ75 hf72_0 hf72_1 hx255_0 hx255_1 hx256_0 hx256_1 hx257_0 hx257_1 hx72_0 hx72_1 hHeld ⊢
                     refine pure_ (i := 0) (N := some 204) (v := ?_) (a' := ?_) qa86 rfl rfl (any_of HT_.out (by kernel_rfl)) (fun _ _ _ h => h) (Or.inl ⟨by rfl, ?_⟩) ?_ ?_; rotate_left
                     ·intro w'; go_simp; with_reducible rfl
                     rotate_left
                     ·simp only [Act.put, qax, qay, qaz, i64_w, i32_w]; rfl
                     refine pure_ (i := 1) (N := some 205) (v := ?_) (a' := ?_) qa87 rfl rfl (any_of HT_.out (by kernel_rfl)) (fun _ _ _ h => h) (Or.inl ⟨by rfl, ?_⟩) ?_ ?_; rotate_left
                     ·intro w'; go_simp; with_reducible rfl
                     rotate_left
                     ·simp only [Act.put, qax, qay, qaz, i64_w, i32_w]; rfl
                     refine pure_ (i := 2) (N := some 206) (v := ?_) (a' := ?_) qa88 rfl rfl (any_of HT_.out (by kernel_rfl)) (fun _ _ _ h => h) (Or.inl ⟨by rfl, ?_⟩) ?_ ?_; rotate_left
                     ·intro w'; go_simp; with_reducible rfl
                     rotate_left
                     ·simp only [Act.put, qax, qay, qaz, i64_w, i32_w]; rfl
                     refine pure_ (i := 3) (N := some 207) (v := ?_) (a' := ?_) qa89 rfl rfl (any_of HT_.out (by kernel_rfl)) (fun _ _ _ h => h) (Or.inl ⟨by rfl, ?_⟩) ?_ ?_; rotate_left
                     ·intro w'; go_simp; with_reducible rfl
                     rotate_left
                     ·simp only [Act.put, qax, qay, qaz, i64_w, i32_w]; rfl
                     refine pure_ (i := 5) (N := some 209) (v := ?_) (a' := ?_) qa90 rfl rfl (any_of HT_.out (by kernel_rfl)) (fun _ _ _ h => h) (Or.inl ⟨by rfl, ?_⟩) ?_ ?_; rotate_left
                     ·intro w'; go_simp; with_reducible rfl
                     rotate_left
                     ·simp only [Act.put, qax, qay, qaz, i64_w, i32_w]; rfl
                     refine pure_ (i := 6) (N := some 210) (v := ?_) (a' := ?_) qa91 rfl rfl (any_of HT_.out (by kernel_rfl)) (fun _ _ _ h => h) (Or.inl ⟨by rfl, ?_⟩) ?_ ?_; rotate_left
                     ·intro w'; go_simp; with_reducible rfl
                     rotate_left
                     ·simp only [Act.put, qax, qay, qaz, i64_w, i32_w]; rfl
                     refine pure_ (i := 7) (N := some 211) (v := ?_) (a' := ?_) qa92 rfl rfl (any_of HT_.out (by kernel_rfl)) (fun _ _ _ h => h) (Or.inl ⟨by rfl, ?_⟩) ?_ ?_; rotate_left
                     ·intro w'; go_simp; with_reducible rfl
                     rotate_left
                     ·simp only [Act.put, qax, qay, qaz, i64_w, i32_w]; rfl
                     refine pure_ (i := 8) (N := some 212) (v := ?_) (a' := ?_) qa93 rfl rfl (any_of HT_.out (by kernel_rfl)) (fun _ _ _ h => h) (Or.inl ⟨by rfl, ?_⟩) ?_ ?_; rotate_left
                     ·intro w'; go_simp; with_reducible rfl
                     rotate_left
                     ·simp only [Act.put, qax, qay, qaz, i64_w, i32_w]; rfl
                     refine take_ (i := 4) (N := some 208) (v := ?_) (a' := ?_) qa94 rfl rfl (take_ofW HT_.out HW_.out (by kernel_rfl)) (fun _ _ _ h => h) (Or.inl ⟨by rfl, ?_⟩) hHeld ?_ ?_; rotate_left
                     ·rintro w' ⟨s0, s1, s2, s3⟩; go_simp; with_reducible rfl
                     rotate_left
                     ·simp only [Act.put, qax, qay, qaz, i64_w, i32_w]; rfl
                     refine take_ (i := 9) (N := some 213) (v := ?_) (a' := ?_) qa95 rfl rfl (take_ofW HT_.out HW_.out (by kernel_rfl)) (fun _ _ _ h => h) (Or.inl ⟨by rfl, ?_⟩) hHeld ?_ ?_; rotate_left
                     ·rintro w' ⟨s0, s1, s2, s3⟩; go_simp; with_reducible rfl
                     rotate_left
                     ·simp only [Act.put, qax, qay, qaz, i64_w, i32_w]; rfl
                     refine pure_ (i := 10) (N := some 214) (v := ?_) (a' := ?_) qa96 rfl rfl (any_of HT_.out (by kernel_rfl)) (fun _ _ _ h => h) (Or.inl ⟨by rfl, ?_⟩) ?_ ?_; rotate_left
                     ·intro w'; go_simp; with_reducible rfl
                     rotate_left
                     ·simp only [Act.put, qax, qay, qaz, i64_w, i32_w]; rfl
                     refine pure_ (i := 11) (N := some 215) (v := ?_) (a' := ?_) qa97 rfl rfl (any_of HT_.out (by kernel_rfl)) (fun _ _ _ h => h) (Or.inl ⟨by rfl, ?_⟩) ?_ ?_; rotate_left
                     ·intro w'; go_simp; with_reducible rfl
                     rotate_left
                     ·simp only [Act.put, qax, qay, qaz, i64_w, i32_w]; rfl
                     refine pure_ (i := 12) (N := some 216) (v := ?_) (a' := ?_) qa98 rfl rfl (any_of HT_.out (by kernel_rfl)) (fun _ _ _ h => h) (Or.inl ⟨by rfl, ?_⟩) ?_ ?_; rotate_left
                     ·intro w'; go_simp; with_reducible rfl
                     rotate_left
                     ·simp only [Act.put, qax, qay, qaz, i64_w, i32_w]; rfl
                     refine last_ (i := 13) (N := none) qa99 rfl rfl (one_of HT_.out (by kernel_rfl)) (by decide) (fun K hK => ?_)
                     refine skip_ (w1 := ?_) (by rfl) rfl ?_ ?_
                     rotate_left
                     ·go_simp; rfl
                     refine hK.out _ _ ?_
                     clear hK K
                     refine done_ (done_of HT_.out (by kernel_rfl)) ?_
                     have n0_ : Aside0 (Kd.R k51 51 (w74.setCell ⟨go72, 1, none⟩ (.int .i64 (wrap64 (((rd_T51 t250 0).f1) + ((rd_T51 t246 (ji63)).f1))))) w.heap.size (fun k_ => some k_ ≠ (.slice (some ad254) t246.length co68 : Value).ownBlock ∧ some k_ ≠ (.slice (some ⟨go72, 0, none⟩) t250.length co70 : Value).ownBlock) (.slice Ao42 t226.length co42) t226) := ⟨by (with_reducible repeat (first | apply Kd.R_alloc | apply Kd.R_drewN | apply Kd.R_drew)); exact Kd.R_mono (Kd.R_far (p := ⟨go72, 1, none⟩) (Kd.R_mono HO_7.out (fun k_ hk => (⟨hk, fun e_ => hk.2 (by rw [e_]; rfl)⟩ : _ ∧ k_ ≠ go72))) (fun _ hk => hk.2) (.int .i64 (wrap64 (((rd_T51 t250 0).f1) + ((rd_T51 t246 (ji63)).f1))))) (fun _ hk => ⟨hk.1.1, hk.1.2⟩)⟩
                     have n1_ : Aside0 (Kd.R k51 51 (w74.setCell ⟨go72, 1, none⟩ (.int .i64 (wrap64 (((rd_T51 t250 0).f1) + ((rd_T51 t246 (ji63)).f1))))) w.heap.size (fun k_ => some k_ ≠ (.slice Ao42 t226.length co42 : Value).ownBlock ∧ some k_ ≠ (.slice (some ⟨go72, 0, none⟩) t250.length co70 : Value).ownBlock) (.slice (some ad254) t246.length co68) t246) := ⟨by (with_reducible repeat (first | apply Kd.R_alloc | apply Kd.R_drewN | apply Kd.R_drew)); exact Kd.R_mono (Kd.R_far (p := ⟨go72, 1, none⟩) (Kd.R_mono HO_17.out (fun k_ hk => (⟨hk, fun e_ => hk.2 (by rw [e_]; rfl)⟩ : _ ∧ k_ ≠ go72))) (fun _ hk => hk.2) (.int .i64 (wrap64 (((rd_T51 t250 0).f1) + ((rd_T51 t246 (ji63)).f1))))) (fun _ hk => ⟨hk.1.1, hk.1.2⟩)⟩
                     have n2_ : Aside0 (Kd.R k51 51 (w74.setCell ⟨go72, 1, none⟩ (.int .i64 (wrap64 (((rd_T51 t250 0).f1) + ((rd_T51 t246 (ji63)).f1))))) w.heap.size (fun k_ => some k_ ≠ (.slice Ao42 t226.length co42 : Value).ownBlock ∧ some k_ ≠ (.slice (some ad254) t246.length co68 : Value).ownBlock) (.slice (some ⟨go72, 0, none⟩) t250.length co70) y258) := ⟨by (with_reducible repeat (first | apply Kd.R_alloc | apply Kd.R_drewN | apply Kd.R_drew)); exact HQ75.out⟩
                     have n3_ : Aside0 (Below w.heap.size w (w74.setCell ⟨go72, 1, none⟩ (.int .i64 (wrap64 (((rd_T51 t250 0).f1) + ((rd_T51 t246 (ji63)).f1)))))) := ⟨by repeat (first | (with_reducible first | exact HB.out | apply below_alloc | apply pw_below_drewN | apply below_drew1 | refine below_set ?_ GB72.out) | exact HB.out)⟩
                     (try clear HO_7)
                     (try clear HO_17)
                     (try clear HO_19)
                     (try clear HB)
                     generalize (w74.setCell ⟨go72, 1, none⟩ (.int .i64 (wrap64 (((rd_T51 t250 0).f1) + ((rd_T51 t246 (ji63)).f1))))) = w76 at n0_ n1_ n2_ n3_ ⊢
                     have HO_7 := n0_
                     have HO_17 := n1_
                     have HO_19 := n2_
                     have HB := n3_
                     clear n0_ n1_ n2_ n3_
                     have q77 : ((ji63) : Int) ≤ ((t246.length : Int) : Int) := of_decide_eq_true (by first | (with_reducible assumption) | assumption)
                     obtain ⟨i077, hi077, _, hsz77, _⟩ := info_parts info51
                     have hcut77 := cut_to (P := Tryd.prog) 38 51 .i64 Tryd.underlying38 hi077 (some ad254) t246.length co68 (ji63) (of_decide_eq_true (by first | (with_reducible assumption) | assumption)) q77 (Kd.R_reads' HO_17.out).2.1
                     have hr77 := Kd.R_take (m := ((ji63) : Int).toNat) HO_17.out (by omega)
                     have hy77 : y259.length = ((ji63) : Int).toNat := (by rw [Ny259.out, List.length_take]; omega)
                     rw [← Ny259.out] at hr77
                     rw [← hy77] at hr77 hcut77
                     clear hy77 hi077 hsz77 HO_17
                     have HO261 := Aside0.mk hr77
                     clear hr77
                     replace q77 := eq_true q77
                     try go_wp2
                     go_meet
                     case rel => exact ⟨_, (y259), (y258), H', ⟨by have := HJ4.out; have := HK2.out; have := HJ40.out; have := HJ52.out; first | omega | exact Nat.le_refl _⟩, ⟨by (with_reducible repeat (first | apply Kd.R_alloc | apply Kd.R_drewN | apply Kd.R_drew)); exact HO_7.out⟩, ⟨by (with_reducible repeat (first | apply Kd.R_alloc | apply Kd.R_drewN | apply Kd.R_drew)); exact HO261.out⟩, ⟨by (with_reducible repeat (first | apply Kd.R_alloc | apply Kd.R_drewN | apply Kd.R_drew)); exact HO_19.out⟩, ⟨by repeat (first | (with_reducible first | exact HB.out | apply below_alloc | apply pw_below_drewN | apply below_drew1) | exact HB.out)⟩⟩
                    ·rw [if_neg c73] at H
                     exact absurd H (by simp)
                   ·rw [if_neg c71] at H
                    have c71b0 : (((rd_T51 t246 (ji63)).f0) == ((rd_T51 t250 0).f0)) = false := beq_eq_false_iff_ne.mpr c71
                    have c71b1 : (((rd_T51 t246 (ji63)).f0) != ((rd_T51 t250 0).f0)) = true := bne_iff_ne.mpr c71
                    (first | rw [c71b0] | (simp only [i64_w, i32_w]; rw [c71b0]) | skip)
                    have H' := Aside0.mk H
                    clear H
                    go_wp2
                    go_meet
                    case rel => exact ⟨_, (t246), (t250), H', ⟨by have := HJ4.out; have := HK2.out; have := HJ40.out; have := HJ52.out; first | omega | exact Nat.le_refl _⟩, ⟨by (with_reducible repeat (first | apply Kd.R_alloc | apply Kd.R_drewN | apply Kd.R_drew)); exact HO_7.out⟩, ⟨by (with_reducible repeat (first | apply Kd.R_alloc | apply Kd.R_drewN | apply Kd.R_drew)); exact HO_17.out⟩, ⟨by (with_reducible repeat (first | apply Kd.R_alloc | apply Kd.R_drewN | apply Kd.R_drew)); exact HO_19.out⟩, ⟨by repeat (first | (with_reducible first | exact HB.out | apply below_alloc | apply pw_below_drewN | apply below_drew1) | exact HB.out)⟩⟩
                  case rest =>
                   clear HC67
                   try clear c1
                   try clear c2
                   try clear p2
                   try clear q2
                   try clear hx2
                   try clear qi2
                   try clear c3
                   try clear c4
                   try clear c5
                   try clear c6
                   try clear p6
                   try clear c7
                   try clear p7
                   try clear q7
                   try clear hx7
                   try clear qi7
                   try clear hf7
                   try clear c13
                   try clear c16
                   try clear c17
                   try clear c17b0
                   try clear c18
                   try clear c21
                   try clear p23
                   try clear q23
                   try clear hx23
                   try clear p24
                   try clear q24
                   try clear hx24
                   try clear qi24
                   try clear p25
                   try clear q25
                   try clear hx25
                   try clear qi25
                   try clear c27
                   try clear c27b0
                   try clear c29
                   try clear c30
                   try clear c37
                   try clear c38
                   try clear c38b0
                   try clear c39
                   try clear c39b0
                   try clear c43
                   try clear c43b0
                   try clear c43b1
                   try clear c44
                   try clear c44b0
                   try clear c44b1
                   try clear c44b2
                   try clear c45
                   try clear c45b0
                   try clear c45b1
                   try clear c46
                   try clear c47
                   try clear c47b0
                   try clear c47b1
                   try clear c48
                   try clear c48b0
                   try clear c56
                   try clear c56b0
                   try clear c56b1
                   try clear c57
                   try clear c57b0
                   try clear c57b1
                   try clear c58
                   try clear c58b0
                   try clear c58b1
                   try clear c58b2
                   try clear c62
                   try clear c64
                   try clear c64b0
                   try clear p64
                   try clear c65
                   try clear c65b0
                   try clear c66
                   try clear c66b0
                   try clear c66b1
                   try clear c71
                   try clear c71b0
                   try clear c71b1
                   try clear c72
                   try clear p72
                   try clear q72
                   try clear hx72
                   try clear qi72
                   try clear hf72
                   try clear c73
                   try clear c73b0
                   try clear c73b1
                   try clear c75
                   try clear q77
                   try clear hx236_0
                   try clear hx236_1
                   try clear hx237_0
                   try clear hx237_1
                   try clear hx241_0
                   try clear hx241_1
                   try clear hx244_0
                   try clear hx244_1
                   try clear hx254_0
                   try clear hx254_1
                   try clear hx255_0
                   try clear hx255_1
                   try clear hx256_0
                   try clear hx256_1
                   try clear hx257_0
                   try clear hx257_1
                   try clear hx72_0
                   try clear hx72_1
                   try clear p2
                   try clear p23
                   try clear p236
                   try clear p237
                   try clear p24
                   try clear p241
                   try clear p244
                   try clear p254
                   try clear p255
                   try clear p256
                   try clear p257
                   try clear p6
                   try clear p72
                   try clear q2
                   try clear q23
                   try clear q236
                   try clear q237
                   try clear q24
                   try clear q241
                   try clear q244
                   try clear q254
                   try clear q255
                   try clear q256
                   try clear q257
                   try clear q72
                   try clear q77
                   obtain ⟨kq, x17_66, x19_66, HA, HJ66, HO_7, HO_17, HO_19, HB⟩ := hcut
                   have hl19_66 := (Kd.R_reads' HO_19.out).1
                   rw [hl19_66] at HO_19
                   (try simp only [hl19_66])
                   (try simp only [hl19_66] at HO_7)
                   (try simp only [hl19_66] at HO_17)
                   cases kq with
                   | zero => exact absurd HA.out (by simp [quittancelaw11_ProrateTerm.j5])
                   | succ kj66 =>
                    have H := HA.out
                    clear HA
                    simp only [quittancelaw11_ProrateTerm.j5] at H
                    obtain ⟨y262, hy262⟩ : ∃ y_ : List (S51), y_ = (([] : List (S51))) := ⟨_, rfl⟩
                    replace H : (if y262.length + x17_66.length < 8796093022208 then ((some (y262 ++ x17_66 : List (S51))).bind fun y265 => (if y265.length + x19_66.length < 8796093022208 then ((quittanceref11_Same.f kj66 (y265 ++ x19_66) t226).bind fun t271 => (if t271 = true then ((quittancelaw11_head.f kj66).bind fun t272 => (some t272)) else (some false))) else (none))) else (none)) = some r := by first | (rw [hy262]; with_reducible exact H) | (have H2_ := (Option.bind_some _ _).symm.trans H; rw [hy262]; with_reducible exact H2_) | (have H2_ := (Option.bind_some _ _).symm.trans H; with_reducible exact H2_) | with_reducible exact H | (rw [hy262]; exact H) | exact H
                    have Ny262 := Aside0.mk hy262
                    clear hy262
                    by_cases c78 : y262.length + x17_66.length < 8796093022208
                    ·as_aux_lemma =>
                     rw [if_pos c78] at H
                     have LMc78 := Aside0.mk c78
                     clear c78
                     obtain ⟨y265, hy265⟩ : ∃ y_ : List (S51), y_ = (y262 ++ x17_66) := ⟨_, rfl⟩
                     replace H : (if y265.length + x19_66.length < 8796093022208 then ((quittanceref11_Same.f kj66 (y265 ++ x19_66) t226).bind fun t271 => (if t271 = true then ((quittancelaw11_head.f kj66).bind fun t272 => (some t272)) else (some false))) else (none)) = some r := by first | (rw [hy265]; with_reducible exact H) | (have H2_ := (Option.bind_some _ _).symm.trans H; rw [hy265]; with_reducible exact H2_) | (have H2_ := (Option.bind_some _ _).symm.trans H; with_reducible exact H2_) | with_reducible exact H | (rw [hy265]; exact H) | exact H
                     have Ny265 := Aside0.mk hy265
                     clear hy265
                     by_cases c79 : y265.length + x19_66.length < 8796093022208
                     ·as_aux_lemma =>
                      rw [if_pos c79] at H
                      have LMc79 := Aside0.mk c79
                      clear c79
                      obtain ⟨y268, hy268⟩ : ∃ y_ : List (S51), y_ = (y265 ++ x19_66) := ⟨_, rfl⟩
                      replace H : ((quittanceref11_Same.f kj66 y268 t226).bind fun t271 => (if t271 = true then ((quittancelaw11_head.f kj66).bind fun t272 => (some t272)) else (some false))) = some r := by first | (rw [hy268]; with_reducible exact H) | (have H2_ := (Option.bind_some _ _).symm.trans H; rw [hy268]; with_reducible exact H2_) | (have H2_ := (Option.bind_some _ _).symm.trans H; with_reducible exact H2_) | with_reducible exact H | (rw [hy268]; exact H) | exact H
                      have Ny268 := Aside0.mk hy268
                      clear hy268
                      replace H := Option.bind_eq_some_iff.mp H
                      obtain ⟨t271, A800, H⟩ := H
                      replace H : (if t271 = true then ((quittancelaw11_head.f kj66).bind fun t272 => (some t272)) else (some false)) = some r := H
                      have A80 := Aside0.mk A800
                      clear A800
                      by_cases c81 : t271 = true
                      ·subst c81
                       have H1 : ((quittancelaw11_head.f kj66).bind fun t272 => (some t272)) = some r := by rw [if_pos rfl] at H; exact H
                       clear H
                       have H := H1
                       clear H1
                       replace H := Option.bind_eq_some_iff.mp H
                       obtain ⟨t272, A820, H⟩ := H
                       replace H : (some t272) = some r := H
                       have A82 := Aside0.mk A820
                       clear A820
                       obtain rfl := Option.some.inj H
                       go_wp2_with (first | ((with_reducible refine gate_dst (N := 220) rfl ?_); (try (refine gate_guard (by rfl) ?_; dsimp only)); refine Kd.R_lit k51 _ 51 ?hg (N := 220) ?hd (xs := ([] : List (S51))) (inner := []) (ok := fun _ => True) (okp := fun _ => True) ?hr ?hp (fun _ hk => hk) trivial (Below.refl _ _) (Nat.le_refl _) (by simp) ?_; (case hd => rfl); (case hg => rfl); (case hr => first | (go_simp; done) | (go_simp; rfl)); (case hp => exact (Reps.none _ _)); intro v263 w83 ho84 hb hg_ hnew_; clear hg_ hnew_; (first | rw [← Ny262.out] at ho84 | (simp only [Int.reduceToNat] at ho84; rw [← Ny262.out] at ho84)); have n0_ := Aside0.mk (Kd.R_elder' (by (with_reducible repeat (first | apply Kd.R_alloc | apply Kd.R_drewN | apply Kd.R_drew)); exact HO_7.out) (Kd.R_base ho84) hb); have n1_ := Aside0.mk (Kd.R_elder' (by (with_reducible repeat (first | apply Kd.R_alloc | apply Kd.R_drewN | apply Kd.R_drew)); exact HO_17.out) (Kd.R_base ho84) hb); have n2_ := Aside0.mk (Kd.R_elder' (by (with_reducible repeat (first | apply Kd.R_alloc | apply Kd.R_drewN | apply Kd.R_drew)); exact HO_19.out) (Kd.R_base ho84) hb); have n3_ := Aside0.mk (Kd.R_lower (Kd.R_new' (Kd.R_new' (Kd.R_new' ho84 (Kd.R_lt (by (with_reducible repeat (first | apply Kd.R_alloc | apply Kd.R_drewN | apply Kd.R_drew)); exact HO_7.out))) (Kd.R_lt (by (with_reducible repeat (first | apply Kd.R_alloc | apply Kd.R_drewN | apply Kd.R_drew)); exact HO_17.out))) (Kd.R_lt (by (with_reducible repeat (first | apply Kd.R_alloc | apply Kd.R_drewN | apply Kd.R_drew)); exact HO_19.out))) (below_size (by repeat (first | (with_reducible first | exact HB.out | apply below_alloc | apply pw_below_drewN | apply below_drew1) | exact HB.out)))); have n4_ := Aside0.mk (below_step (by repeat (first | (with_reducible first | exact HB.out | apply below_alloc | apply pw_below_drewN | apply below_drew1) | exact HB.out)) hb); clear HO_7; clear HO_17; clear HO_19; clear HB; have HO_7 := n0_; have HO_17 := n1_; have HO_19 := n2_; have HO264 := n3_; have HB := n4_; clear n0_ n1_ n2_ n3_ n4_; clear hb ho84; obtain ⟨Ao86, co86, eo86⟩ := Kd.R_slice HO_17.out; subst eo86) | ((with_reducible refine gate_builtin (b := .append) (xs := #[.tmp 220, .tmp 221]) rfl ?_); (try (refine gate_guard (by rfl) ?_; dsimp only)); at_builtin; refine Kd.R_append_rows k51 (w0 := w) w.heap.size rfl (.tmp 220) (.tmp 221) 38 51 (.agg #[(.int .i64 0), (.int .i64 0)]) 16 rfl Tryd.underlying38 info51 rfl (by decide) (by omega) v263 y262 x17_66 _ _ _ (fun k_ => some k_ ≠ (.slice Ao42 t226.length co42 : Value).ownBlock ∧ some k_ ≠ (.slice Ao86 x17_66.length co86 : Value).ownBlock ∧ some k_ ≠ (.slice (some ad255) x19_66.length co70 : Value).ownBlock) (fun _ => False) rfl rfl ?aO ?aR (fun _ _ h => h) (fun _ h => h.elim) ?aF ?aB ?aS ?aL ?_; (case aR => repeat (first | exact (Kd.R_reads' HO_17.out).2.2 | (with_reducible refine Kd.C_alloc ?_ _) | (with_reducible refine Kd.C_drewN ?_ _) | (with_reducible refine Kd.C_drew ?_))); (case aB => exact (by repeat (first | (with_reducible first | exact HB.out | apply below_alloc | apply pw_below_drewN | apply below_drew1) | exact HB.out))); (case aF => exact (fun k_ hk => ⟨Kd.fresh' (Kd.R_lt (by (with_reducible repeat (first | apply Kd.R_alloc | apply Kd.R_drewN | apply Kd.R_drew)); exact HO_7.out)) k_ hk, Kd.fresh' (Kd.R_lt (by (with_reducible repeat (first | apply Kd.R_alloc | apply Kd.R_drewN | apply Kd.R_drew)); exact HO_17.out)) k_ hk, Kd.fresh' (Kd.R_lt (by (with_reducible repeat (first | apply Kd.R_alloc | apply Kd.R_drewN | apply Kd.R_drew)); exact HO_19.out)) k_ hk⟩)); (case aO => exact (by (with_reducible repeat (first | apply Kd.R_alloc | apply Kd.R_drewN | apply Kd.R_drew)); exact Kd.R_mono HO264.out (fun _ hk => ⟨hk.1.1.2, ⟨hk.1.2, hk.2⟩⟩))); (case aS => exact (below_size (by repeat (first | (with_reducible first | exact HB.out | apply below_alloc | apply pw_below_drewN | apply below_drew1) | exact HB.out)))); (case aL => have := LMc78.out; omega); intro v266 w85 ho hb hg hat; rw [← Ny265.out] at ho; have n0_ := Aside0.mk (Kd.R_after (ok := (fun k_ => some k_ ≠ (.slice Ao86 x17_66.length co86 : Value).ownBlock ∧ some k_ ≠ (.slice (some ad255) x19_66.length co70 : Value).ownBlock)) (by (with_reducible repeat (first | apply Kd.R_alloc | apply Kd.R_drewN | apply Kd.R_drew)); exact HO_7.out) hg hat); have n1_ := Aside0.mk (Kd.R_after (ok := (fun k_ => some k_ ≠ (.slice Ao42 t226.length co42 : Value).ownBlock ∧ some k_ ≠ (.slice (some ad255) x19_66.length co70 : Value).ownBlock)) (by (with_reducible repeat (first | apply Kd.R_alloc | apply Kd.R_drewN | apply Kd.R_drew)); exact HO_17.out) hg hat); have n2_ := Aside0.mk (Kd.R_after (ok := (fun k_ => some k_ ≠ (.slice Ao42 t226.length co42 : Value).ownBlock ∧ some k_ ≠ (.slice Ao86 x17_66.length co86 : Value).ownBlock)) (by (with_reducible repeat (first | apply Kd.R_alloc | apply Kd.R_drewN | apply Kd.R_drew)); exact HO_19.out) hg hat); have n3_ := Aside0.mk (hb); have n4_ := Aside0.mk (ho); clear HO_7; clear HO_17; clear HO_19; clear HB; clear HO264; have HO_7 := n0_; have HO_17 := n1_; have HO_19 := n2_; have HB := n3_; have HO267 := n4_; clear n0_ n1_ n2_ n3_ n4_; clear ho hb hg hat) | ((with_reducible refine gate_builtin (b := .append) (xs := #[.tmp 222, .tmp 223]) rfl ?_); (try (refine gate_guard (by rfl) ?_; dsimp only)); at_builtin; refine Kd.R_append_rows k51 (w0 := w) w.heap.size rfl (.tmp 222) (.tmp 223) 38 51 (.agg #[(.int .i64 0), (.int .i64 0)]) 16 rfl Tryd.underlying38 info51 rfl (by decide) (by omega) v266 y265 x19_66 _ _ _ (fun k_ => some k_ ≠ (.slice Ao42 t226.length co42 : Value).ownBlock ∧ some k_ ≠ (.slice Ao86 x17_66.length co86 : Value).ownBlock ∧ some k_ ≠ (.slice (some ad255) x19_66.length co70 : Value).ownBlock) (fun _ => False) rfl rfl ?aO ?aR (fun _ _ h => h) (fun _ h => h.elim) ?aF ?aB ?aS ?aL ?_; (case aR => repeat (first | exact (Kd.R_reads' HO_19.out).2.2 | (with_reducible refine Kd.C_alloc ?_ _) | (with_reducible refine Kd.C_drewN ?_ _) | (with_reducible refine Kd.C_drew ?_))); (case aB => exact (by repeat (first | (with_reducible first | exact HB.out | apply below_alloc | apply pw_below_drewN | apply below_drew1) | exact HB.out))); (case aF => exact (fun k_ hk => ⟨Kd.fresh' (Kd.R_lt (by (with_reducible repeat (first | apply Kd.R_alloc | apply Kd.R_drewN | apply Kd.R_drew)); exact HO_7.out)) k_ hk, Kd.fresh' (Kd.R_lt (by (with_reducible repeat (first | apply Kd.R_alloc | apply Kd.R_drewN | apply Kd.R_drew)); exact HO_17.out)) k_ hk, Kd.fresh' (Kd.R_lt (by (with_reducible repeat (first | apply Kd.R_alloc | apply Kd.R_drewN | apply Kd.R_drew)); exact HO_19.out)) k_ hk⟩)); (case aO => exact (by (with_reducible repeat (first | apply Kd.R_alloc | apply Kd.R_drewN | apply Kd.R_drew)); exact HO267.out)); (case aS => exact (below_size (by repeat (first | (with_reducible first | exact HB.out | apply below_alloc | apply pw_below_drewN | apply below_drew1) | exact HB.out)))); (case aL => have := LMc79.out; omega); intro v269 w87 ho hb hg hat; rw [← Ny268.out] at ho; have n0_ := Aside0.mk (Kd.R_after (ok := (fun k_ => some k_ ≠ (.slice Ao86 x17_66.length co86 : Value).ownBlock ∧ some k_ ≠ (.slice (some ad255) x19_66.length co70 : Value).ownBlock)) (by (with_reducible repeat (first | apply Kd.R_alloc | apply Kd.R_drewN | apply Kd.R_drew)); exact HO_7.out) hg hat); have n1_ := Aside0.mk (Kd.R_after (ok := (fun k_ => some k_ ≠ (.slice Ao42 t226.length co42 : Value).ownBlock ∧ some k_ ≠ (.slice (some ad255) x19_66.length co70 : Value).ownBlock)) (by (with_reducible repeat (first | apply Kd.R_alloc | apply Kd.R_drewN | apply Kd.R_drew)); exact HO_17.out) hg hat); have n2_ := Aside0.mk (Kd.R_after (ok := (fun k_ => some k_ ≠ (.slice Ao42 t226.length co42 : Value).ownBlock ∧ some k_ ≠ (.slice Ao86 x17_66.length co86 : Value).ownBlock)) (by (with_reducible repeat (first | apply Kd.R_alloc | apply Kd.R_drewN | apply Kd.R_drew)); exact HO_19.out) hg hat); have n3_ := Aside0.mk (hb); have n4_ := Aside0.mk (ho); clear HO_7; clear HO_17; clear HO_19; clear HB; clear HO267; have HO_7 := n0_; have HO_17 := n1_; have HO_19 := n2_; have HB := n3_; have HO270 := n4_; clear n0_ n1_ n2_ n3_ n4_; clear ho hb hg hat; obtain ⟨Ao88, co88, eo88⟩ := Kd.R_slice HO270.out; subst eo88) | ((with_reducible refine gate_callee (f := 18) rfl ?_); refine goesL_ (some 226) rfl rfl Tryd.func18 (by kernel_rfl) rfl #[.slice Ao88 y268.length co88, .slice Ao42 t226.length co42] rfl (by (try simp only [List.map_toArray, List.map_cons, List.map_nil]); first | done | rfl | (simp only [List.length_drop, List.length_take]; rfl)) ?_; (with_reducible refine (quittanceref11_Same.calls kj66 _ _ y268 _ _ t226 true _ ?side1 ?side2 ?side3 ?side4 A80.out).mono ?_); (case side1 => repeat (first | exact (Kd.R_reads' HO270.out).2.2 | (with_reducible refine Kd.C_alloc ?_ _) | (with_reducible refine Kd.C_drewN ?_ _) | (with_reducible refine Kd.C_drew ?_))); (case side2 => exact (Kd.R_reads' HO270.out).2.1); (case side3 => repeat (first | exact (Kd.R_reads' HO_7.out).2.2 | (with_reducible refine Kd.C_alloc ?_ _) | (with_reducible refine Kd.C_drewN ?_ _) | (with_reducible refine Kd.C_drew ?_))); (case side4 => exact (Kd.R_reads' HO_7.out).2.1); rintro e w' ⟨rfl, ⟨nd, rfl⟩⟩; refine ⟨_, rfl, ?_⟩) | (go_at_call 13; (with_reducible refine (quittancelaw11_head.calls kj66  t272 _ (Tab.b HTab (by repeat (first | (with_reducible first | exact HB.out | apply below_alloc | apply pw_below_drewN | apply below_drew1) | exact HB.out))) A82.out).mono ?_); rintro e w89 ⟨rfl, hb⟩; have n0_ := Aside0.mk (Kd.R_below (by (with_reducible repeat (first | apply Kd.R_alloc | apply Kd.R_drewN | apply Kd.R_drew)); exact HO_7.out) hb); have n1_ := Aside0.mk (Kd.R_below (by (with_reducible repeat (first | apply Kd.R_alloc | apply Kd.R_drewN | apply Kd.R_drew)); exact HO_17.out) hb); have n2_ := Aside0.mk (Kd.R_below (by (with_reducible repeat (first | apply Kd.R_alloc | apply Kd.R_drewN | apply Kd.R_drew)); exact HO_19.out) hb); have n3_ := Aside0.mk (Kd.R_below (by (with_reducible repeat (first | apply Kd.R_alloc | apply Kd.R_drewN | apply Kd.R_drew)); exact HO270.out) hb); have n4_ := Aside0.mk (below_step (by repeat (first | (with_reducible first | exact HB.out | apply below_alloc | apply pw_below_drewN | apply below_drew1) | exact HB.out)) hb); clear HO_7; clear HO_17; clear HO_19; clear HO270; clear HB; have HO_7 := n0_; have HO_17 := n1_; have HO_19 := n2_; have HO270 := n3_; have HB := n4_; clear n0_ n1_ n2_ n3_ n4_; (try clear hb); (try clear hb2); (try clear hk); (try clear hi)))
                       go_ret
                       exact ⟨by first | rfl | (simp [errW_none, errW_some] <;> rfl) | (simp only [← hji63]; first | rfl | (simp [errW_none, errW_some] <;> rfl)) | (simp [*, errW_none, errW_some] <;> rfl), by repeat (first | (with_reducible first | exact HB.out | apply below_alloc | apply pw_below_drewN | apply below_drew1) | exact HB.out)⟩
                      ·replace c81 := Bool.eq_false_iff.mpr c81
                       subst c81
                       have H1 : (some false) = some r := by rw [if_neg (show ¬ (false = true) by decide)] at H; exact H
                       clear H
                       have H := H1
                       clear H1
                       obtain rfl := Option.some.inj H
                       go_wp2_with (first | ((with_reducible refine gate_dst (N := 220) rfl ?_); (try (refine gate_guard (by rfl) ?_; dsimp only)); refine Kd.R_lit k51 _ 51 ?hg (N := 220) ?hd (xs := ([] : List (S51))) (inner := []) (ok := fun _ => True) (okp := fun _ => True) ?hr ?hp (fun _ hk => hk) trivial (Below.refl _ _) (Nat.le_refl _) (by simp) ?_; (case hd => rfl); (case hg => rfl); (case hr => first | (go_simp; done) | (go_simp; rfl)); (case hp => exact (Reps.none _ _)); intro v263 w90 ho91 hb hg_ hnew_; clear hg_ hnew_; (first | rw [← Ny262.out] at ho91 | (simp only [Int.reduceToNat] at ho91; rw [← Ny262.out] at ho91)); have n0_ := Aside0.mk (Kd.R_elder' (by (with_reducible repeat (first | apply Kd.R_alloc | apply Kd.R_drewN | apply Kd.R_drew)); exact HO_7.out) (Kd.R_base ho91) hb); have n1_ := Aside0.mk (Kd.R_elder' (by (with_reducible repeat (first | apply Kd.R_alloc | apply Kd.R_drewN | apply Kd.R_drew)); exact HO_17.out) (Kd.R_base ho91) hb); have n2_ := Aside0.mk (Kd.R_elder' (by (with_reducible repeat (first | apply Kd.R_alloc | apply Kd.R_drewN | apply Kd.R_drew)); exact HO_19.out) (Kd.R_base ho91) hb); have n3_ := Aside0.mk (Kd.R_lower (Kd.R_new' (Kd.R_new' (Kd.R_new' ho91 (Kd.R_lt (by (with_reducible repeat (first | apply Kd.R_alloc | apply Kd.R_drewN | apply Kd.R_drew)); exact HO_7.out))) (Kd.R_lt (by (with_reducible repeat (first | apply Kd.R_alloc | apply Kd.R_drewN | apply Kd.R_drew)); exact HO_17.out))) (Kd.R_lt (by (with_reducible repeat (first | apply Kd.R_alloc | apply Kd.R_drewN | apply Kd.R_drew)); exact HO_19.out))) (below_size (by repeat (first | (with_reducible first | exact HB.out | apply below_alloc | apply pw_below_drewN | apply below_drew1) | exact HB.out)))); have n4_ := Aside0.mk (below_step (by repeat (first | (with_reducible first | exact HB.out | apply below_alloc | apply pw_below_drewN | apply below_drew1) | exact HB.out)) hb); clear HO_7; clear HO_17; clear HO_19; clear HB; have HO_7 := n0_; have HO_17 := n1_; have HO_19 := n2_; have HO264 := n3_; have HB := n4_; clear n0_ n1_ n2_ n3_ n4_; clear hb ho91; obtain ⟨Ao93, co93, eo93⟩ := Kd.R_slice HO_17.out; subst eo93) | ((with_reducible refine gate_builtin (b := .append) (xs := #[.tmp 220, .tmp 221]) rfl ?_); (try (refine gate_guard (by rfl) ?_; dsimp only)); at_builtin; refine Kd.R_append_rows k51 (w0 := w) w.heap.size rfl (.tmp 220) (.tmp 221) 38 51 (.agg #[(.int .i64 0), (.int .i64 0)]) 16 rfl Tryd.underlying38 info51 rfl (by decide) (by omega) v263 y262 x17_66 _ _ _ (fun k_ => some k_ ≠ (.slice Ao42 t226.length co42 : Value).ownBlock ∧ some k_ ≠ (.slice Ao93 x17_66.length co93 : Value).ownBlock ∧ some k_ ≠ (.slice (some ad255) x19_66.length co70 : Value).ownBlock) (fun _ => False) rfl rfl ?aO ?aR (fun _ _ h => h) (fun _ h => h.elim) ?aF ?aB ?aS ?aL ?_; (case aR => repeat (first | exact (Kd.R_reads' HO_17.out).2.2 | (with_reducible refine Kd.C_alloc ?_ _) | (with_reducible refine Kd.C_drewN ?_ _) | (with_reducible refine Kd.C_drew ?_))); (case aB => exact (by repeat (first | (with_reducible first | exact HB.out | apply below_alloc | apply pw_below_drewN | apply below_drew1) | exact HB.out))); (case aF => exact (fun k_ hk => ⟨Kd.fresh' (Kd.R_lt (by (with_reducible repeat (first | apply Kd.R_alloc | apply Kd.R_drewN | apply Kd.R_drew)); exact HO_7.out)) k_ hk, Kd.fresh' (Kd.R_lt (by (with_reducible repeat (first | apply Kd.R_alloc | apply Kd.R_drewN | apply Kd.R_drew)); exact HO_17.out)) k_ hk, Kd.fresh' (Kd.R_lt (by (with_reducible repeat (first | apply Kd.R_alloc | apply Kd.R_drewN | apply Kd.R_drew)); exact HO_19.out)) k_ hk⟩)); (case aO => exact (by (with_reducible repeat (first | apply Kd.R_alloc | apply Kd.R_drewN | apply Kd.R_drew)); exact Kd.R_mono HO264.out (fun _ hk => ⟨hk.1.1.2, ⟨hk.1.2, hk.2⟩⟩))); (case aS => exact (below_size (by repeat (first | (with_reducible first | exact HB.out | apply below_alloc | apply pw_below_drewN | apply below_drew1) | exact HB.out)))); (case aL => have := LMc78.out; omega); intro v266 w92 ho hb hg hat; rw [← Ny265.out] at ho; have n0_ := Aside0.mk (Kd.R_after (ok := (fun k_ => some k_ ≠ (.slice Ao93 x17_66.length co93 : Value).ownBlock ∧ some k_ ≠ (.slice (some ad255) x19_66.length co70 : Value).ownBlock)) (by (with_reducible repeat (first | apply Kd.R_alloc | apply Kd.R_drewN | apply Kd.R_drew)); exact HO_7.out) hg hat); have n1_ := Aside0.mk (Kd.R_after (ok := (fun k_ => some k_ ≠ (.slice Ao42 t226.length co42 : Value).ownBlock ∧ some k_ ≠ (.slice (some ad255) x19_66.length co70 : Value).ownBlock)) (by (with_reducible repeat (first | apply Kd.R_alloc | apply Kd.R_drewN | apply Kd.R_drew)); exact HO_17.out) hg hat); have n2_ := Aside0.mk (Kd.R_after (ok := (fun k_ => some k_ ≠ (.slice Ao42 t226.length co42 : Value).ownBlock ∧ some k_ ≠ (.slice Ao93 x17_66.length co93 : Value).ownBlock)) (by (with_reducible repeat (first | apply Kd.R_alloc | apply Kd.R_drewN | apply Kd.R_drew)); exact HO_19.out) hg hat); have n3_ := Aside0.mk (hb); have n4_ := Aside0.mk (ho); clear HO_7; clear HO_17; clear HO_19; clear HB; clear HO264; have HO_7 := n0_; have HO_17 := n1_; have HO_19 := n2_; have HB := n3_; have HO267 := n4_; clear n0_ n1_ n2_ n3_ n4_; clear ho hb hg hat) | ((with_reducible refine gate_builtin (b := .append) (xs := #[.tmp 222, .tmp 223]) rfl ?_); (try (refine gate_guard (by rfl) ?_; dsimp only)); at_builtin; refine Kd.R_append_rows k51 (w0 := w) w.heap.size rfl (.tmp 222) (.tmp 223) 38 51 (.agg #[(.int .i64 0), (.int .i64 0)]) 16 rfl Tryd.underlying38 info51 rfl (by decide) (by omega) v266 y265 x19_66 _ _ _ (fun k_ => some k_ ≠ (.slice Ao42 t226.length co42 : Value).ownBlock ∧ some k_ ≠ (.slice Ao93 x17_66.length co93 : Value).ownBlock ∧ some k_ ≠ (.slice (some ad255) x19_66.length co70 : Value).ownBlock) (fun _ => False) rfl rfl ?aO ?aR (fun _ _ h => h) (fun _ h => h.elim) ?aF ?aB ?aS ?aL ?_; (case aR => repeat (first | exact (Kd.R_reads' HO_19.out).2.2 | (with_reducible refine Kd.C_alloc ?_ _) | (with_reducible refine Kd.C_drewN ?_ _) | (with_reducible refine Kd.C_drew ?_))); (case aB => exact (by repeat (first | (with_reducible first | exact HB.out | apply below_alloc | apply pw_below_drewN | apply below_drew1) | exact HB.out))); (case aF => exact (fun k_ hk => ⟨Kd.fresh' (Kd.R_lt (by (with_reducible repeat (first | apply Kd.R_alloc | apply Kd.R_drewN | apply Kd.R_drew)); exact HO_7.out)) k_ hk, Kd.fresh' (Kd.R_lt (by (with_reducible repeat (first | apply Kd.R_alloc | apply Kd.R_drewN | apply Kd.R_drew)); exact HO_17.out)) k_ hk, Kd.fresh' (Kd.R_lt (by (with_reducible repeat (first | apply Kd.R_alloc | apply Kd.R_drewN | apply Kd.R_drew)); exact HO_19.out)) k_ hk⟩)); (case aO => exact (by (with_reducible repeat (first | apply Kd.R_alloc | apply Kd.R_drewN | apply Kd.R_drew)); exact HO267.out)); (case aS => exact (below_size (by repeat (first | (with_reducible first | exact HB.out | apply below_alloc | apply pw_below_drewN | apply below_drew1) | exact HB.out)))); (case aL => have := LMc79.out; omega); intro v269 w94 ho hb hg hat; rw [← Ny268.out] at ho; have n0_ := Aside0.mk (Kd.R_after (ok := (fun k_ => some k_ ≠ (.slice Ao93 x17_66.length co93 : Value).ownBlock ∧ some k_ ≠ (.slice (some ad255) x19_66.length co70 : Value).ownBlock)) (by (with_reducible repeat (first | apply Kd.R_alloc | apply Kd.R_drewN | apply Kd.R_drew)); exact HO_7.out) hg hat); have n1_ := Aside0.mk (Kd.R_after (ok := (fun k_ => some k_ ≠ (.slice Ao42 t226.length co42 : Value).ownBlock ∧ some k_ ≠ (.slice (some ad255) x19_66.length co70 : Value).ownBlock)) (by (with_reducible repeat (first | apply Kd.R_alloc | apply Kd.R_drewN | apply Kd.R_drew)); exact HO_17.out) hg hat); have n2_ := Aside0.mk (Kd.R_after (ok := (fun k_ => some k_ ≠ (.slice Ao42 t226.length co42 : Value).ownBlock ∧ some k_ ≠ (.slice Ao93 x17_66.length co93 : Value).ownBlock)) (by (with_reducible repeat (first | apply Kd.R_alloc | apply Kd.R_drewN | apply Kd.R_drew)); exact HO_19.out) hg hat); have n3_ := Aside0.mk (hb); have n4_ := Aside0.mk (ho); clear HO_7; clear HO_17; clear HO_19; clear HB; clear HO267; have HO_7 := n0_; have HO_17 := n1_; have HO_19 := n2_; have HB := n3_; have HO270 := n4_; clear n0_ n1_ n2_ n3_ n4_; clear ho hb hg hat; obtain ⟨Ao95, co95, eo95⟩ := Kd.R_slice HO270.out; subst eo95) | ((with_reducible refine gate_callee (f := 18) rfl ?_); refine goesL_ (some 226) rfl rfl Tryd.func18 (by kernel_rfl) rfl #[.slice Ao95 y268.length co95, .slice Ao42 t226.length co42] rfl (by (try simp only [List.map_toArray, List.map_cons, List.map_nil]); first | done | rfl | (simp only [List.length_drop, List.length_take]; rfl)) ?_; (with_reducible refine (quittanceref11_Same.calls kj66 _ _ y268 _ _ t226 false _ ?side1 ?side2 ?side3 ?side4 A80.out).mono ?_); (case side1 => repeat (first | exact (Kd.R_reads' HO270.out).2.2 | (with_reducible refine Kd.C_alloc ?_ _) | (with_reducible refine Kd.C_drewN ?_ _) | (with_reducible refine Kd.C_drew ?_))); (case side2 => exact (Kd.R_reads' HO270.out).2.1); (case side3 => repeat (first | exact (Kd.R_reads' HO_7.out).2.2 | (with_reducible refine Kd.C_alloc ?_ _) | (with_reducible refine Kd.C_drewN ?_ _) | (with_reducible refine Kd.C_drew ?_))); (case side4 => exact (Kd.R_reads' HO_7.out).2.1); rintro e w' ⟨rfl, ⟨nd, rfl⟩⟩; refine ⟨_, rfl, ?_⟩))
                       go_ret
                       exact ⟨by first | rfl | (simp [errW_none, errW_some] <;> rfl) | (simp only [← hji63]; first | rfl | (simp [errW_none, errW_some] <;> rfl)) | (simp [*, errW_none, errW_some] <;> rfl), by repeat (first | (with_reducible first | exact HB.out | apply below_alloc | apply pw_below_drewN | apply below_drew1) | exact HB.out)⟩
                     ·rw [if_neg c79] at H
                      exact absurd H (by simp)
                    ·rw [if_neg c78] at H
                     exact absurd H (by simp)
                 ·rw [if_neg c66] at H
                  exact absurd H (by simp)
                ·rw [if_neg c65] at H
                 exact absurd H (by simp)
               ·rw [if_neg c64] at H
                exact absurd H (by simp)

end Go.Proofs.YtpegaabcelkmmaaDoor.PH
