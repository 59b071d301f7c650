/- Names answers true: the error numbers, kinds and limits of package api are the document's. No conditions. -/
import Derived.Test.YtiicnbdolakdgaaPNamesx1
namespace Go.Proofs.Ytiicnbdolakdgaa.Pure
open Go.RowKit Go.Proofs.Ytiicnbdolakdgaa.PNames Go.Proofs.YtiicnbdolakdgaaW.PrintWords Go.Proofs.YtiicnbdolakdgaaW.PrintLast

/-- YOURS: ∃ k, rostrumlaw_Names.f k  = some true
What it reaches (each with k first where it has rounds; `.mono`: more rounds tell the same; `.l0`, ..: its loops, with `.mono_l`): rostrumlaw_Names.f -/
theorem Names : rostrumlaw_Names.Pure := by
  exact ⟨100, by kernel_rfl⟩

end Go.Proofs.Ytiicnbdolakdgaa.Pure
