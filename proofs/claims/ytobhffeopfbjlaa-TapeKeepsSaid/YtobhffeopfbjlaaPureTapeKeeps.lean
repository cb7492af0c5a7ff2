/- What was synced is there behind a crash, whatever was appended behind, if it fills its last sector. -/
import Derived.Test.YtobhffeopfbjlaaTk
namespace Go.Proofs.Ytobhffeopfbjlaa.Pure
theorem TapeKeeps : QT.styluslaw07_TapeKeeps.Pure := Tk.TapeKeeps
end Go.Proofs.Ytobhffeopfbjlaa.Pure
