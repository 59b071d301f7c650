/- ClientNews answers true: client.New is the reference's empty machine. It has no arguments. No conditions. -/
import Derived.Test.YtiicnbdolakdgaaPClientNewsx6
namespace Go.Proofs.Ytiicnbdolakdgaa.Pure
open Go.RowKit Go.Proofs.Ytiicnbdolakdgaa.PClientNews Go.Proofs.YtiicnbdolakdgaaW.PrintWords Go.Proofs.YtiicnbdolakdgaaW.PrintLast

/-- YOURS: ∃ k, rostrumlaw_ClientNews.f k  = some true
What it reaches (each with k first where it has rounds; `.mono`: more rounds tell the same; `.l0`, ..: its loops, with `.mono_l`): client_New.f, rostrumref_EmptyMachine.f, rostrumlaw_sameTexts.f, rostrumlaw_sameValue.f, rostrumlaw_sameStore.f, rostrumlaw_sameReply.f, rostrumlaw_sameMachine.f, rostrumlaw_ClientNews.f -/
theorem ClientNews : rostrumlaw_ClientNews.Pure := by
  exact ⟨100, by kernel_rfl⟩

end Go.Proofs.Ytiicnbdolakdgaa.Pure
