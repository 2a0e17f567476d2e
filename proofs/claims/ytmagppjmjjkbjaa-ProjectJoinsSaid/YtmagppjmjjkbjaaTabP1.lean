/- Passes over a third of the first eighth turn, reckoned by the kernel. -/
import Derived.Test.YtmagppjmjjkbjaaTabA
namespace Go.Proofs.Ytmagppjmjjkbjaa.Tab
set_option maxRecDepth 1000000

theorem pass0 : pass 5400 0 = true := by decide +kernel
theorem pass1 : pass 5400 5400 = true := by decide +kernel
theorem pass2 : pass 5400 10800 = true := by decide +kernel
theorem pass3 : pass 5400 16200 = true := by decide +kernel
theorem pass4 : pass 5400 21600 = true := by decide +kernel
theorem pass5 : pass 5400 27000 = true := by decide +kernel
theorem pass6 : pass 5400 32400 = true := by decide +kernel
theorem pass7 : pass 5400 37800 = true := by decide +kernel
theorem pass8 : pass 5400 43200 = true := by decide +kernel
theorem pass9 : pass 5400 48600 = true := by decide +kernel

end Go.Proofs.Ytmagppjmjjkbjaa.Tab
