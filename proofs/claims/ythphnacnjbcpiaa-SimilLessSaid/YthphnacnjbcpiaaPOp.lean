-- written by mp.py, a program of this session, over the kit's printer
import Derived.Test.YthphnacnjbcpiaaOpens
import Derived.Test.YthphnacnjbcpiaaPx0
import Derived.KernelRfl
namespace Go.Proofs.Ythphnacnjbcpiaa.P
open Go.RowKit Go.Proofs.Ythphnacnjbcpiaa.Op Go.Proofs.YthphnacnjbcpiaaW.PrintWords
set_option linter.unusedVariables false
end Go.Proofs.Ythphnacnjbcpiaa.P
