/- The call of pct.isUnreserved answers whether a byte may stand as it is, by the table of bits. Conditions: the argument is a byte; the table holds what its initialiser lays. -/
import Derived.Test.YtdlfdmbaejhaaaaDoorGlob
import Derived.Lib.Hide
import Derived.Deep.QuietTactic
import Derived.BigQuiet
set_option linter.unusedVariables false
set_option linter.unusedSimpArgs false
namespace Go.Proofs.YtdlfdmbaejhaaaaDoor.Q
open Go.RowKit Go.Proofs.YtdlfdmbaejhaaaaDoorW.PrintWords Go.Proofs.YtdlfdmbaejhaaaaDoorW.PrintLast Go.Proofs.YtdlfdmbaejhaaaaDoorW.PrintMore

/-- May the byte c stand as it is? -/
def unresB (c : Int) : Bool := decide (c < 128) && (bits .and .u32 (unresL.getD (c / 32).toNat 0 / 2 ^ (c % 32).toNat) 1 == 1)
/-- What pct.isUnreserved answers. -/
def pct_isUnreserved.f (a0 : Int) : Option Bool := if 0 ≤ a0 ∧ a0 < 256 then some (unresB a0) else none

set_option maxHeartbeats 1000000 in
theorem pct_isUnreserved.calls [Sent] (a0 : Int) (r : Bool) (w : World) (h : pct_isUnreserved.f a0 = some r) (hG : Glob [17] w) :
    Calls Tryd.prog 72 #[.int .u8 a0] w fun e w' => e = .returned (.bool r) ∧ Drawn0 w w' := by
  have hr : 0 ≤ a0 ∧ a0 < 256 := by
    unfold pct_isUnreserved.f at h; split at h
    · assumption
    · cases h
  have hv : unresB a0 = r := by
    unfold pct_isUnreserved.f at h; rw [if_pos hr] at h; injection h
  obtain ⟨h0, h1⟩ := hr
  by_cases hlt : a0 < 128
  · have hc := hG.unreserved (by rfl) (a0 / 32).toNat (by show _ < 4; omega)
    have hv2 : (bits .and .u32 (unresL.getD (a0 / 32).toNat 0 / 2 ^ (a0 % 32).toNat) 1 == 1) = r := by rw [← hv]; unfold unresB; rw [decide_eq_true hlt]; rfl
    generalize unresL.getD (a0 / 32).toNat 0 = kv at *
    clear h hG hv
    have hb : decide (a0 < 128) = true := decide_eq_true hlt
    have hq0 : 0 ≤ a0 / 32 := by omega
    have hq1 : a0 / 32 < 4 := by omega
    have hm0 : 0 ≤ a0 % 32 := by omega
    have hm1 : a0 % 32 < 32 := by omega
    subst hv2
    go_enter Tryd.func72, Tryd.ntmps72
    go_wp2
    go_ret
    exact ⟨by first | rfl | (simp; done), Drawn0.refl _⟩
  · have hv2 : false = r := by rw [← hv]; unfold unresB; rw [decide_eq_false hlt]; rfl
    subst hv2
    have hb : decide (a0 < 128) = false := decide_eq_false hlt
    clear h hG hv
    go_enter Tryd.func72, Tryd.ntmps72
    go_wp2
    go_ret
    exact ⟨rfl, Drawn0.refl _⟩
end Go.Proofs.YtdlfdmbaejhaaaaDoor.Q
