/- Slices put together: Grow, Concat, Clone at texts. -/
import Derived.Test.YtpfoflhhbkjngaaZFnA
import Derived.Test.YtpfoflhhbkjngaaZEvU
set_option linter.unusedVariables false
set_option linter.unusedSimpArgs false
namespace Go.Proofs.Ytpfoflhhbkjngaa.Ev
open Go Go.Proofs

/-- slices.Clone[[]string,string]: 1 parameters, 0 captured -/
def s79 : SC := .seq (.reg [o1 2 (.mv (.c (.slice none 0 0)))])
  (.seq (.seq (.reg [o1 3 (.mv (.t 0)),
     o1 4 (.eq false .slice (.t 3) (.c (.slice none 0 0)))])
    (.cond (.t 4) (.seq (.reg [o1 2 (.mv (.c (.slice none 0 0)))])
      (.ret)) (.skip)))
   (.seq (.reg [o1 5 (.buildSl 9 1 0 [(.string ⟨#[]⟩)] []),
     o1 6 (.mv (.t 0)),
     o1 7 (.app 9 1 16 (.t 5) (.t 6)),
     o1 2 (.mv (.t 7))])
    (.ret)))
theorem s79_ok : lookF Try.prog 79 = some (s79, 8, [.tmp 2]) := by kernel_rfl
end Go.Proofs.Ytpfoflhhbkjngaa.Ev
