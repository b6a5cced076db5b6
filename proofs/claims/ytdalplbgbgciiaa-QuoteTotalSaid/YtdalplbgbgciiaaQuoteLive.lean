/- The chapter's examples hold: a run in the kernel; and the shape that the laws share. -/
import Derived.Test.YtdalplbgbgciiaaBytesPure
namespace Go.Proofs.Ytdalplbgbgciiaa.Pure
open Go.RowKit Go.Proofs.Ytdalplbgbgciiaa.PA Go.Proofs.YtdalplbgbgciiaaW.PrintWords Go.Proofs.YtdalplbgbgciiaaW.PrintLast
theorem live_yes : placketlaw02_live.f 60 = some true := by kernel_rfl
theorem live_ev : Ev (fun k => placketlaw02_live.f k) true := Ev.of (placketlaw02_live.mono) live_yes
theorem live_only : Ev (fun k => (placketlaw02_live.f k).bind fun t => some t) true := Ev.bind live_ev (Ev.now _)
end Go.Proofs.Ytdalplbgbgciiaa.Pure
