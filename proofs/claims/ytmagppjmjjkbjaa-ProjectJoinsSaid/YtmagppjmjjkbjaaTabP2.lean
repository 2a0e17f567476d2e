/- Passes over a third of the first eighth turn, reckoned by the kernel. -/
import Derived.Test.YtmagppjmjjkbjaaTabA
namespace Go.Proofs.Ytmagppjmjjkbjaa.Tab
set_option maxRecDepth 1000000

theorem pass10 : pass 5400 54000 = true := by decide +kernel
theorem pass11 : pass 5400 59400 = true := by decide +kernel
theorem pass12 : pass 5400 64800 = true := by decide +kernel
theorem pass13 : pass 5400 70200 = true := by decide +kernel
theorem pass14 : pass 5400 75600 = true := by decide +kernel
theorem pass15a : pass 2700 81000 = true := by decide +kernel
theorem pass15b : pass 2700 83700 = true := by decide +kernel
theorem pass16 : pass 5400 86400 = true := by decide +kernel
theorem pass17 : pass 5400 91800 = true := by decide +kernel
theorem pass18 : pass 5400 97200 = true := by decide +kernel
theorem pass19 : pass 5400 102600 = true := by decide +kernel

end Go.Proofs.Ytmagppjmjjkbjaa.Tab
