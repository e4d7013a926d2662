/-
  The row's closed facts together.
-/
import Derived.Test.YtedmipkemhnihaaGreatDoorEnC
namespace Go.Proofs.YtedmipkemhnihaaGreatDoor
set_option linter.unusedVariables false
set_option linter.unusedSimpArgs false
open Go
set_option maxRecDepth 100000 in
theorem enc_all : joinedFacts Tryz.prog 3 Tryz.f3 Rows.execNobodySpec Rows.execNobodyRow = true := enc_and (enc_and (enc_and (enc_and (enc_and (enc_and (enc_and (enc_and (enc_and (enc_and (enc_and (enc_and (enc_and (enc_and (enc_and (enc_and (enc_and (enc_and (enc_and (enc_and (enc_and (enc_and (enc_and (enc_and (enc_and (enc_and (enc_and (enc_and (enc_and (enc_and (enc_and (enc_0) enc_1) enc_2) enc_3) enc_4) enc_5) enc_6) enc_7) enc_8) enc_9) enc_10) enc_11) enc_12) enc_13) enc_14) enc_15) enc_16) enc_17) enc_18) enc_19) enc_20) enc_21) enc_22) enc_23) enc_24) enc_25) enc_26) enc_27) enc_28) enc_29) enc_30) enc_31
end Go.Proofs.YtedmipkemhnihaaGreatDoor
