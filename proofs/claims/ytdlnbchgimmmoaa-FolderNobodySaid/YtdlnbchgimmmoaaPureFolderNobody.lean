/- A folder that no call made has no names, and takes none. -/
import Derived.Test.YtdlnbchgimmmoaaPx2
namespace Go.Proofs.Ytdlnbchgimmmoaa.Pure
open Go.RowKit Go.Proofs.Ytdlnbchgimmmoaa.P Go.Proofs.YtdlnbchgimmmoaaW.PrintWords Go.Proofs.YtdlnbchgimmmoaaW.PrintLast

theorem FolderNobody : styluslaw09_FolderNobody.Pure := fun _ _ _ _ => rfl
end Go.Proofs.Ytdlnbchgimmmoaa.Pure
