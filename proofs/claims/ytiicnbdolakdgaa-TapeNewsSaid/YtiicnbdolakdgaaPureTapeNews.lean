/- TapeNews answers true: tape.New is the reference's empty disk. It has no arguments. No conditions. -/
import Derived.Test.YtiicnbdolakdgaaPTapeNewsx8
namespace Go.Proofs.Ytiicnbdolakdgaa.Pure
open Go.RowKit Go.Proofs.Ytiicnbdolakdgaa.PTapeNews Go.Proofs.YtiicnbdolakdgaaW.PrintWords Go.Proofs.YtiicnbdolakdgaaW.PrintLast

/-- YOURS: ∃ k, rostrumlaw_TapeNews.f k  = some true
What it reaches (each with k first where it has rounds; `.mono`: more rounds tell the same; `.l0`, ..: its loops, with `.mono_l`): client_New.f, tape_New.f, rostrumref_EmptyMachine.f, rostrumref_EmptyDisk.f, rostrumlaw_sameTexts.f, rostrumlaw_sameValue.f, rostrumlaw_sameStore.f, rostrumlaw_sameReply.f, rostrumlaw_sameMachine.f, rostrumlaw_sameSnap.f, rostrumlaw_sameItems.f, rostrumlaw_sameLog.f, rostrumlaw_sameDisk.f, rostrumlaw_TapeNews.f -/
theorem TapeNews : rostrumlaw_TapeNews.Pure := by
  exact ⟨100, by kernel_rfl⟩

end Go.Proofs.Ytiicnbdolakdgaa.Pure
