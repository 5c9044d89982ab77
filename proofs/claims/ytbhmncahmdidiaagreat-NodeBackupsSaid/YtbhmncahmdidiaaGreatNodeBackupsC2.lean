/-
  NodeBackups: cases, part 2.
-/
import Derived.Test.YtbhmncahmdidiaaGreatNodeBackupsC0
import Derived.KernelRfl
set_option maxRecDepth 1000000
namespace Go.Proofs.YtbhmncahmdidiaaGreat.Ev
open Go.Ev
theorem cNodeBackups1 : runNodeBackups true false [(0, 3), (0, 1), (0, 255)] = true := by kernel_rfl
end Go.Proofs.YtbhmncahmdidiaaGreat.Ev
