/- Passes over a third of the first eighth turn, reckoned by the kernel. -/
import Derived.Test.YtmagppjmjjkbjaaTabA
namespace Go.Proofs.Ytmagppjmjjkbjaa.Tab
set_option maxRecDepth 1000000

theorem pass20 : pass 5400 108000 = true := by decide +kernel
theorem pass21 : pass 5400 113400 = true := by decide +kernel
theorem pass22 : pass 5400 118800 = true := by decide +kernel
theorem pass23 : pass 5400 124200 = true := by decide +kernel
theorem pass24 : pass 5400 129600 = true := by decide +kernel
theorem pass25 : pass 5400 135000 = true := by decide +kernel
theorem pass26 : pass 5400 140400 = true := by decide +kernel
theorem pass27 : pass 5400 145800 = true := by decide +kernel
theorem pass28 : pass 5400 151200 = true := by decide +kernel
theorem pass29 : pass 5400 156600 = true := by decide +kernel

end Go.Proofs.Ytmagppjmjjkbjaa.Tab
