-- Printed by a program: the print with changes of this session (wip/printpatch.py).
import Derived.Test.YtkoopdoeehoigaaPSoundTellsx0
import Derived.Test.YtkoopdoeehoigaaPSoundTellsx1
import Derived.Test.YtkoopdoeehoigaaPSoundTellsx2
import Derived.Test.YtkoopdoeehoigaaPSoundTellsx3
import Derived.Test.YtkoopdoeehoigaaPSoundTellsx4
import Derived.Test.YtkoopdoeehoigaaPSoundTellsx5
import Derived.Test.YtkoopdoeehoigaaPSoundTellsx6
import Derived.Test.YtkoopdoeehoigaaPSoundTellsx7
import Derived.Test.YtkoopdoeehoigaaPSoundTellsx8
namespace Go.Proofs.Ytkoopdoeehoigaa.PSoundTells
open Go.Proofs.Ytkoopdoeehoigaa.Fnv Go.Proofs.Ytkoopdoeehoigaa.Ary
open Go.RowKit Go.Proofs.YtkoopdoeehoigaaW.PrintWords Go.Proofs.YtkoopdoeehoigaaW.PrintLast Go.Proofs.YtkoopdoeehoigaaW.PrintMore
attribute [local go_sem] max2_int min2_int max_two min_two max_three min_three max_four min_four   -- for this text's walks alone
set_option linter.unusedVariables false
set_option linter.unusedSimpArgs false

end Go.Proofs.Ytkoopdoeehoigaa.PSoundTells
