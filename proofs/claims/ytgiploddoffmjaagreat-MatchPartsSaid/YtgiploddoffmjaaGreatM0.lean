/- Short names. -/
import Derived.Lib.Hide
namespace Go.Proofs.YtgiploddoffmjaaGreat
theorem zA {a b : Prop} (x : a) (y : b) : a ∧ b := ⟨x, y⟩
theorem zH {p : Prop} (h : p) : RowKit.Hid p := Lib.hid h
end Go.Proofs.YtgiploddoffmjaaGreat
