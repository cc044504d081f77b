/- The call of field.is answers whether a byte has one of the flags, by the table of the kinds of bytes. Conditions: both arguments are bytes; the table holds what its initialiser lays. -/
import Derived.Test.YtdlfdmbaejhaaaaDoorGlob
import Derived.Lib.Hide
set_option linter.unusedVariables false
set_option linter.unusedSimpArgs false
namespace Go.Proofs.YtdlfdmbaejhaaaaDoor.Q
open Go.RowKit Go.Proofs.YtdlfdmbaejhaaaaDoorW.PrintWords Go.Proofs.YtdlfdmbaejhaaaaDoorW.PrintLast Go.Proofs.YtdlfdmbaejhaaaaDoorW.PrintMore

/-- What field.is answers. -/
def field_is.f (a0 a1 : Int) : Option Bool := if 0 ≤ a0 ∧ a0 < 256 then some (bits .and .u8 (kindsL.getD a0.toNat 0) a1 != 0) else none
theorem kindsL_length : kindsL.length = 256 := by decide +kernel

set_option maxHeartbeats 1000000 in
theorem field_is.calls [Sent] (a0 a1 : Int) (r : Bool) (w : World) (h : field_is.f a0 a1 = some r) (hG : Glob [16] w) :
    Calls Tryd.prog 51 #[.int .u8 a0, .int .u8 a1] w fun e w' => e = .returned (.bool r) ∧ Drawn0 w w' := by
  have hr : 0 ≤ a0 ∧ a0 < 256 := by
    unfold field_is.f at h; split at h
    · assumption
    · cases h
  have hv : (bits .and .u8 (kindsL.getD a0.toNat 0) a1 != 0) = r := by
    unfold field_is.f at h; rw [if_pos hr] at h; injection h
  obtain ⟨h0, h1⟩ := hr
  have hc := hG.kinds (by rfl) a0.toNat (by rw [kindsL_length]; omega)
  generalize kindsL.getD a0.toNat 0 = kv at *
  clear h hG
  subst hv
  go_enter Tryd.func51, Tryd.ntmps51
  go_wp2
  go_ret
  exact ⟨rfl, Drawn0.refl _⟩
end Go.Proofs.YtdlfdmbaejhaaaaDoor.Q
