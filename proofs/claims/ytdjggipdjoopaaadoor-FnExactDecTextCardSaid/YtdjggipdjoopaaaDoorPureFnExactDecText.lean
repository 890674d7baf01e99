import Derived.Test.YtdjggipdjoopaaaDoorPDtx1
import Derived.Test.YtdjggipdjoopaaaDoorPDtx2
import Derived.Test.YtdjggipdjoopaaaDoorDec
namespace Go.Proofs.YtdjggipdjoopaaaDoor.Pure
open Go Go.RowKit Go.Proofs.YtdjggipdjoopaaaDoor.PDt Go.Proofs.YtdjggipdjoopaaaDoorW.PrintWords Go.Proofs.YtdjggipdjoopaaaDoorW.PrintLast

theorem FnExactDecText : laws_FnExactDecText.Pure := by
  intro a0 w0
  have h0 : -9223372036854775808 ≤ a0 ∧ a0 ≤ 9223372036854775807 := by simpa [Lit.wf, IntKind.min, IntKind.max, IntKind.signed, IntKind.bits] using w0
  obtain ⟨k, hk⟩ := DecText_eq a0 h0.1 h0.2
  refine ⟨k, ?_⟩
  unfold laws_FnExactDecText.f impl_DecText.f strconv_Itoa.f
  rw [hk, if_pos h0]
  simp [itoaB]

end Go.Proofs.YtdjggipdjoopaaaDoor.Pure
