/- The call of usherkit.Num answers the number of a refusal in the document's list. Conditions: the refusal is one of the thirteen; the thirteen variables hold what their initialisers lay. -/
import Derived.Test.YtbkhgmmlacdhoaaDoorGlob
import Derived.Lib.Hide
set_option linter.unusedVariables false
set_option linter.unusedSimpArgs false
namespace Go.Proofs.YtbkhgmmlacdhoaaDoor.Q
open Go.RowKit Go.Proofs.YtbkhgmmlacdhoaaDoorW.PrintWords Go.Proofs.YtbkhgmmlacdhoaaDoorW.PrintLast Go.Proofs.YtbkhgmmlacdhoaaDoorW.PrintMore

/-- What usherkit.Num answers. -/
def usherkit_Num.f (a0 : Option Int) : Option Int := match a0 with
  | none => some 0
  | some c => if 1 ≤ c ∧ c ≤ 13 then some c else none

set_option maxHeartbeats 4000000 in
theorem usherkit_Num.calls_none [Sent] (w : World) : Calls Tryd.prog 25 #[.nilIface] w fun e w' => e = .returned (.int .i64 0) ∧ Drawn0 w w' := by
  go_enter Tryd.func25, Tryd.ntmps25
  go_wp2
  go_ret
  exact ⟨rfl, Drawn0.refl _⟩

set_option maxHeartbeats 4000000 in
theorem usherkit_Num.calls_1 [Sent] (w : World) (hG : Glob [3, 0, 2, 4, 5, 6, 7, 9, 10, 11, 12, 13, 14, 999] w) : Calls Tryd.prog 25 #[.iface 155 (.pointer (some (Sent.addr 1)))] w fun e w' => e = .returned (.int .i64 1) ∧ Drawn0 w w' := by
  have g1 := hG.err1 (by rfl)
  have q1 := run_eq_err (hG.sent (by rfl)) 1 1
  rw [show ((1 : Int) == 1) = true from rfl] at q1
  clear hG
  go_enter Tryd.func25, Tryd.ntmps25
  go_wp2
  go_ret
  exact ⟨rfl, Drawn0.refl _⟩

set_option maxHeartbeats 4000000 in
theorem usherkit_Num.calls_2 [Sent] (w : World) (hG : Glob [3, 0, 2, 4, 5, 6, 7, 9, 10, 11, 12, 13, 14, 999] w) : Calls Tryd.prog 25 #[.iface 155 (.pointer (some (Sent.addr 2)))] w fun e w' => e = .returned (.int .i64 2) ∧ Drawn0 w w' := by
  have g1 := hG.err1 (by rfl)
  have g2 := hG.err2 (by rfl)
  have q1 := run_eq_err (hG.sent (by rfl)) 2 1
  rw [show ((2 : Int) == 1) = false from rfl] at q1
  have q2 := run_eq_err (hG.sent (by rfl)) 2 2
  rw [show ((2 : Int) == 2) = true from rfl] at q2
  clear hG
  go_enter Tryd.func25, Tryd.ntmps25
  go_wp2
  go_ret
  exact ⟨rfl, Drawn0.refl _⟩

set_option maxHeartbeats 4000000 in
theorem usherkit_Num.calls_3 [Sent] (w : World) (hG : Glob [3, 0, 2, 4, 5, 6, 7, 9, 10, 11, 12, 13, 14, 999] w) : Calls Tryd.prog 25 #[.iface 155 (.pointer (some (Sent.addr 3)))] w fun e w' => e = .returned (.int .i64 3) ∧ Drawn0 w w' := by
  have g1 := hG.err1 (by rfl)
  have g2 := hG.err2 (by rfl)
  have g3 := hG.err3 (by rfl)
  have q1 := run_eq_err (hG.sent (by rfl)) 3 1
  rw [show ((3 : Int) == 1) = false from rfl] at q1
  have q2 := run_eq_err (hG.sent (by rfl)) 3 2
  rw [show ((3 : Int) == 2) = false from rfl] at q2
  have q3 := run_eq_err (hG.sent (by rfl)) 3 3
  rw [show ((3 : Int) == 3) = true from rfl] at q3
  clear hG
  go_enter Tryd.func25, Tryd.ntmps25
  go_wp2
  go_ret
  exact ⟨rfl, Drawn0.refl _⟩

set_option maxHeartbeats 4000000 in
theorem usherkit_Num.calls_4 [Sent] (w : World) (hG : Glob [3, 0, 2, 4, 5, 6, 7, 9, 10, 11, 12, 13, 14, 999] w) : Calls Tryd.prog 25 #[.iface 155 (.pointer (some (Sent.addr 4)))] w fun e w' => e = .returned (.int .i64 4) ∧ Drawn0 w w' := by
  have g1 := hG.err1 (by rfl)
  have g2 := hG.err2 (by rfl)
  have g3 := hG.err3 (by rfl)
  have g4 := hG.err4 (by rfl)
  have q1 := run_eq_err (hG.sent (by rfl)) 4 1
  rw [show ((4 : Int) == 1) = false from rfl] at q1
  have q2 := run_eq_err (hG.sent (by rfl)) 4 2
  rw [show ((4 : Int) == 2) = false from rfl] at q2
  have q3 := run_eq_err (hG.sent (by rfl)) 4 3
  rw [show ((4 : Int) == 3) = false from rfl] at q3
  have q4 := run_eq_err (hG.sent (by rfl)) 4 4
  rw [show ((4 : Int) == 4) = true from rfl] at q4
  clear hG
  go_enter Tryd.func25, Tryd.ntmps25
  go_wp2
  go_ret
  exact ⟨rfl, Drawn0.refl _⟩

set_option maxHeartbeats 4000000 in
theorem usherkit_Num.calls_5 [Sent] (w : World) (hG : Glob [3, 0, 2, 4, 5, 6, 7, 9, 10, 11, 12, 13, 14, 999] w) : Calls Tryd.prog 25 #[.iface 155 (.pointer (some (Sent.addr 5)))] w fun e w' => e = .returned (.int .i64 5) ∧ Drawn0 w w' := by
  have g1 := hG.err1 (by rfl)
  have g2 := hG.err2 (by rfl)
  have g3 := hG.err3 (by rfl)
  have g4 := hG.err4 (by rfl)
  have g5 := hG.err5 (by rfl)
  have q1 := run_eq_err (hG.sent (by rfl)) 5 1
  rw [show ((5 : Int) == 1) = false from rfl] at q1
  have q2 := run_eq_err (hG.sent (by rfl)) 5 2
  rw [show ((5 : Int) == 2) = false from rfl] at q2
  have q3 := run_eq_err (hG.sent (by rfl)) 5 3
  rw [show ((5 : Int) == 3) = false from rfl] at q3
  have q4 := run_eq_err (hG.sent (by rfl)) 5 4
  rw [show ((5 : Int) == 4) = false from rfl] at q4
  have q5 := run_eq_err (hG.sent (by rfl)) 5 5
  rw [show ((5 : Int) == 5) = true from rfl] at q5
  clear hG
  go_enter Tryd.func25, Tryd.ntmps25
  go_wp2
  go_ret
  exact ⟨rfl, Drawn0.refl _⟩

set_option maxHeartbeats 4000000 in
theorem usherkit_Num.calls_6 [Sent] (w : World) (hG : Glob [3, 0, 2, 4, 5, 6, 7, 9, 10, 11, 12, 13, 14, 999] w) : Calls Tryd.prog 25 #[.iface 155 (.pointer (some (Sent.addr 6)))] w fun e w' => e = .returned (.int .i64 6) ∧ Drawn0 w w' := by
  have g1 := hG.err1 (by rfl)
  have g2 := hG.err2 (by rfl)
  have g3 := hG.err3 (by rfl)
  have g4 := hG.err4 (by rfl)
  have g5 := hG.err5 (by rfl)
  have g6 := hG.err6 (by rfl)
  have q1 := run_eq_err (hG.sent (by rfl)) 6 1
  rw [show ((6 : Int) == 1) = false from rfl] at q1
  have q2 := run_eq_err (hG.sent (by rfl)) 6 2
  rw [show ((6 : Int) == 2) = false from rfl] at q2
  have q3 := run_eq_err (hG.sent (by rfl)) 6 3
  rw [show ((6 : Int) == 3) = false from rfl] at q3
  have q4 := run_eq_err (hG.sent (by rfl)) 6 4
  rw [show ((6 : Int) == 4) = false from rfl] at q4
  have q5 := run_eq_err (hG.sent (by rfl)) 6 5
  rw [show ((6 : Int) == 5) = false from rfl] at q5
  have q6 := run_eq_err (hG.sent (by rfl)) 6 6
  rw [show ((6 : Int) == 6) = true from rfl] at q6
  clear hG
  go_enter Tryd.func25, Tryd.ntmps25
  go_wp2
  go_ret
  exact ⟨rfl, Drawn0.refl _⟩

set_option maxHeartbeats 4000000 in
theorem usherkit_Num.calls_7 [Sent] (w : World) (hG : Glob [3, 0, 2, 4, 5, 6, 7, 9, 10, 11, 12, 13, 14, 999] w) : Calls Tryd.prog 25 #[.iface 155 (.pointer (some (Sent.addr 7)))] w fun e w' => e = .returned (.int .i64 7) ∧ Drawn0 w w' := by
  have g1 := hG.err1 (by rfl)
  have g2 := hG.err2 (by rfl)
  have g3 := hG.err3 (by rfl)
  have g4 := hG.err4 (by rfl)
  have g5 := hG.err5 (by rfl)
  have g6 := hG.err6 (by rfl)
  have g7 := hG.err7 (by rfl)
  have q1 := run_eq_err (hG.sent (by rfl)) 7 1
  rw [show ((7 : Int) == 1) = false from rfl] at q1
  have q2 := run_eq_err (hG.sent (by rfl)) 7 2
  rw [show ((7 : Int) == 2) = false from rfl] at q2
  have q3 := run_eq_err (hG.sent (by rfl)) 7 3
  rw [show ((7 : Int) == 3) = false from rfl] at q3
  have q4 := run_eq_err (hG.sent (by rfl)) 7 4
  rw [show ((7 : Int) == 4) = false from rfl] at q4
  have q5 := run_eq_err (hG.sent (by rfl)) 7 5
  rw [show ((7 : Int) == 5) = false from rfl] at q5
  have q6 := run_eq_err (hG.sent (by rfl)) 7 6
  rw [show ((7 : Int) == 6) = false from rfl] at q6
  have q7 := run_eq_err (hG.sent (by rfl)) 7 7
  rw [show ((7 : Int) == 7) = true from rfl] at q7
  clear hG
  go_enter Tryd.func25, Tryd.ntmps25
  go_wp2
  go_ret
  exact ⟨rfl, Drawn0.refl _⟩

set_option maxHeartbeats 4000000 in
theorem usherkit_Num.calls_8 [Sent] (w : World) (hG : Glob [3, 0, 2, 4, 5, 6, 7, 9, 10, 11, 12, 13, 14, 999] w) : Calls Tryd.prog 25 #[.iface 155 (.pointer (some (Sent.addr 8)))] w fun e w' => e = .returned (.int .i64 8) ∧ Drawn0 w w' := by
  have g1 := hG.err1 (by rfl)
  have g2 := hG.err2 (by rfl)
  have g3 := hG.err3 (by rfl)
  have g4 := hG.err4 (by rfl)
  have g5 := hG.err5 (by rfl)
  have g6 := hG.err6 (by rfl)
  have g7 := hG.err7 (by rfl)
  have g8 := hG.err8 (by rfl)
  have q1 := run_eq_err (hG.sent (by rfl)) 8 1
  rw [show ((8 : Int) == 1) = false from rfl] at q1
  have q2 := run_eq_err (hG.sent (by rfl)) 8 2
  rw [show ((8 : Int) == 2) = false from rfl] at q2
  have q3 := run_eq_err (hG.sent (by rfl)) 8 3
  rw [show ((8 : Int) == 3) = false from rfl] at q3
  have q4 := run_eq_err (hG.sent (by rfl)) 8 4
  rw [show ((8 : Int) == 4) = false from rfl] at q4
  have q5 := run_eq_err (hG.sent (by rfl)) 8 5
  rw [show ((8 : Int) == 5) = false from rfl] at q5
  have q6 := run_eq_err (hG.sent (by rfl)) 8 6
  rw [show ((8 : Int) == 6) = false from rfl] at q6
  have q7 := run_eq_err (hG.sent (by rfl)) 8 7
  rw [show ((8 : Int) == 7) = false from rfl] at q7
  have q8 := run_eq_err (hG.sent (by rfl)) 8 8
  rw [show ((8 : Int) == 8) = true from rfl] at q8
  clear hG
  go_enter Tryd.func25, Tryd.ntmps25
  go_wp2
  go_ret
  exact ⟨rfl, Drawn0.refl _⟩

set_option maxHeartbeats 4000000 in
theorem usherkit_Num.calls_9 [Sent] (w : World) (hG : Glob [3, 0, 2, 4, 5, 6, 7, 9, 10, 11, 12, 13, 14, 999] w) : Calls Tryd.prog 25 #[.iface 155 (.pointer (some (Sent.addr 9)))] w fun e w' => e = .returned (.int .i64 9) ∧ Drawn0 w w' := by
  have g1 := hG.err1 (by rfl)
  have g2 := hG.err2 (by rfl)
  have g3 := hG.err3 (by rfl)
  have g4 := hG.err4 (by rfl)
  have g5 := hG.err5 (by rfl)
  have g6 := hG.err6 (by rfl)
  have g7 := hG.err7 (by rfl)
  have g8 := hG.err8 (by rfl)
  have g9 := hG.err9 (by rfl)
  have q1 := run_eq_err (hG.sent (by rfl)) 9 1
  rw [show ((9 : Int) == 1) = false from rfl] at q1
  have q2 := run_eq_err (hG.sent (by rfl)) 9 2
  rw [show ((9 : Int) == 2) = false from rfl] at q2
  have q3 := run_eq_err (hG.sent (by rfl)) 9 3
  rw [show ((9 : Int) == 3) = false from rfl] at q3
  have q4 := run_eq_err (hG.sent (by rfl)) 9 4
  rw [show ((9 : Int) == 4) = false from rfl] at q4
  have q5 := run_eq_err (hG.sent (by rfl)) 9 5
  rw [show ((9 : Int) == 5) = false from rfl] at q5
  have q6 := run_eq_err (hG.sent (by rfl)) 9 6
  rw [show ((9 : Int) == 6) = false from rfl] at q6
  have q7 := run_eq_err (hG.sent (by rfl)) 9 7
  rw [show ((9 : Int) == 7) = false from rfl] at q7
  have q8 := run_eq_err (hG.sent (by rfl)) 9 8
  rw [show ((9 : Int) == 8) = false from rfl] at q8
  have q9 := run_eq_err (hG.sent (by rfl)) 9 9
  rw [show ((9 : Int) == 9) = true from rfl] at q9
  clear hG
  go_enter Tryd.func25, Tryd.ntmps25
  go_wp2
  go_ret
  exact ⟨rfl, Drawn0.refl _⟩

set_option maxHeartbeats 4000000 in
theorem usherkit_Num.calls_10 [Sent] (w : World) (hG : Glob [3, 0, 2, 4, 5, 6, 7, 9, 10, 11, 12, 13, 14, 999] w) : Calls Tryd.prog 25 #[.iface 155 (.pointer (some (Sent.addr 10)))] w fun e w' => e = .returned (.int .i64 10) ∧ Drawn0 w w' := by
  have g1 := hG.err1 (by rfl)
  have g2 := hG.err2 (by rfl)
  have g3 := hG.err3 (by rfl)
  have g4 := hG.err4 (by rfl)
  have g5 := hG.err5 (by rfl)
  have g6 := hG.err6 (by rfl)
  have g7 := hG.err7 (by rfl)
  have g8 := hG.err8 (by rfl)
  have g9 := hG.err9 (by rfl)
  have g10 := hG.err10 (by rfl)
  have q1 := run_eq_err (hG.sent (by rfl)) 10 1
  rw [show ((10 : Int) == 1) = false from rfl] at q1
  have q2 := run_eq_err (hG.sent (by rfl)) 10 2
  rw [show ((10 : Int) == 2) = false from rfl] at q2
  have q3 := run_eq_err (hG.sent (by rfl)) 10 3
  rw [show ((10 : Int) == 3) = false from rfl] at q3
  have q4 := run_eq_err (hG.sent (by rfl)) 10 4
  rw [show ((10 : Int) == 4) = false from rfl] at q4
  have q5 := run_eq_err (hG.sent (by rfl)) 10 5
  rw [show ((10 : Int) == 5) = false from rfl] at q5
  have q6 := run_eq_err (hG.sent (by rfl)) 10 6
  rw [show ((10 : Int) == 6) = false from rfl] at q6
  have q7 := run_eq_err (hG.sent (by rfl)) 10 7
  rw [show ((10 : Int) == 7) = false from rfl] at q7
  have q8 := run_eq_err (hG.sent (by rfl)) 10 8
  rw [show ((10 : Int) == 8) = false from rfl] at q8
  have q9 := run_eq_err (hG.sent (by rfl)) 10 9
  rw [show ((10 : Int) == 9) = false from rfl] at q9
  have q10 := run_eq_err (hG.sent (by rfl)) 10 10
  rw [show ((10 : Int) == 10) = true from rfl] at q10
  clear hG
  go_enter Tryd.func25, Tryd.ntmps25
  go_wp2
  go_ret
  exact ⟨rfl, Drawn0.refl _⟩

set_option maxHeartbeats 4000000 in
theorem usherkit_Num.calls_11 [Sent] (w : World) (hG : Glob [3, 0, 2, 4, 5, 6, 7, 9, 10, 11, 12, 13, 14, 999] w) : Calls Tryd.prog 25 #[.iface 155 (.pointer (some (Sent.addr 11)))] w fun e w' => e = .returned (.int .i64 11) ∧ Drawn0 w w' := by
  have g1 := hG.err1 (by rfl)
  have g2 := hG.err2 (by rfl)
  have g3 := hG.err3 (by rfl)
  have g4 := hG.err4 (by rfl)
  have g5 := hG.err5 (by rfl)
  have g6 := hG.err6 (by rfl)
  have g7 := hG.err7 (by rfl)
  have g8 := hG.err8 (by rfl)
  have g9 := hG.err9 (by rfl)
  have g10 := hG.err10 (by rfl)
  have g11 := hG.err11 (by rfl)
  have q1 := run_eq_err (hG.sent (by rfl)) 11 1
  rw [show ((11 : Int) == 1) = false from rfl] at q1
  have q2 := run_eq_err (hG.sent (by rfl)) 11 2
  rw [show ((11 : Int) == 2) = false from rfl] at q2
  have q3 := run_eq_err (hG.sent (by rfl)) 11 3
  rw [show ((11 : Int) == 3) = false from rfl] at q3
  have q4 := run_eq_err (hG.sent (by rfl)) 11 4
  rw [show ((11 : Int) == 4) = false from rfl] at q4
  have q5 := run_eq_err (hG.sent (by rfl)) 11 5
  rw [show ((11 : Int) == 5) = false from rfl] at q5
  have q6 := run_eq_err (hG.sent (by rfl)) 11 6
  rw [show ((11 : Int) == 6) = false from rfl] at q6
  have q7 := run_eq_err (hG.sent (by rfl)) 11 7
  rw [show ((11 : Int) == 7) = false from rfl] at q7
  have q8 := run_eq_err (hG.sent (by rfl)) 11 8
  rw [show ((11 : Int) == 8) = false from rfl] at q8
  have q9 := run_eq_err (hG.sent (by rfl)) 11 9
  rw [show ((11 : Int) == 9) = false from rfl] at q9
  have q10 := run_eq_err (hG.sent (by rfl)) 11 10
  rw [show ((11 : Int) == 10) = false from rfl] at q10
  have q11 := run_eq_err (hG.sent (by rfl)) 11 11
  rw [show ((11 : Int) == 11) = true from rfl] at q11
  clear hG
  go_enter Tryd.func25, Tryd.ntmps25
  go_wp2
  go_ret
  exact ⟨rfl, Drawn0.refl _⟩

set_option maxHeartbeats 4000000 in
theorem usherkit_Num.calls_12 [Sent] (w : World) (hG : Glob [3, 0, 2, 4, 5, 6, 7, 9, 10, 11, 12, 13, 14, 999] w) : Calls Tryd.prog 25 #[.iface 155 (.pointer (some (Sent.addr 12)))] w fun e w' => e = .returned (.int .i64 12) ∧ Drawn0 w w' := by
  have g1 := hG.err1 (by rfl)
  have g2 := hG.err2 (by rfl)
  have g3 := hG.err3 (by rfl)
  have g4 := hG.err4 (by rfl)
  have g5 := hG.err5 (by rfl)
  have g6 := hG.err6 (by rfl)
  have g7 := hG.err7 (by rfl)
  have g8 := hG.err8 (by rfl)
  have g9 := hG.err9 (by rfl)
  have g10 := hG.err10 (by rfl)
  have g11 := hG.err11 (by rfl)
  have g12 := hG.err12 (by rfl)
  have q1 := run_eq_err (hG.sent (by rfl)) 12 1
  rw [show ((12 : Int) == 1) = false from rfl] at q1
  have q2 := run_eq_err (hG.sent (by rfl)) 12 2
  rw [show ((12 : Int) == 2) = false from rfl] at q2
  have q3 := run_eq_err (hG.sent (by rfl)) 12 3
  rw [show ((12 : Int) == 3) = false from rfl] at q3
  have q4 := run_eq_err (hG.sent (by rfl)) 12 4
  rw [show ((12 : Int) == 4) = false from rfl] at q4
  have q5 := run_eq_err (hG.sent (by rfl)) 12 5
  rw [show ((12 : Int) == 5) = false from rfl] at q5
  have q6 := run_eq_err (hG.sent (by rfl)) 12 6
  rw [show ((12 : Int) == 6) = false from rfl] at q6
  have q7 := run_eq_err (hG.sent (by rfl)) 12 7
  rw [show ((12 : Int) == 7) = false from rfl] at q7
  have q8 := run_eq_err (hG.sent (by rfl)) 12 8
  rw [show ((12 : Int) == 8) = false from rfl] at q8
  have q9 := run_eq_err (hG.sent (by rfl)) 12 9
  rw [show ((12 : Int) == 9) = false from rfl] at q9
  have q10 := run_eq_err (hG.sent (by rfl)) 12 10
  rw [show ((12 : Int) == 10) = false from rfl] at q10
  have q11 := run_eq_err (hG.sent (by rfl)) 12 11
  rw [show ((12 : Int) == 11) = false from rfl] at q11
  have q12 := run_eq_err (hG.sent (by rfl)) 12 12
  rw [show ((12 : Int) == 12) = true from rfl] at q12
  clear hG
  go_enter Tryd.func25, Tryd.ntmps25
  go_wp2
  go_ret
  exact ⟨rfl, Drawn0.refl _⟩

set_option maxHeartbeats 4000000 in
theorem usherkit_Num.calls_13 [Sent] (w : World) (hG : Glob [3, 0, 2, 4, 5, 6, 7, 9, 10, 11, 12, 13, 14, 999] w) : Calls Tryd.prog 25 #[.iface 155 (.pointer (some (Sent.addr 13)))] w fun e w' => e = .returned (.int .i64 13) ∧ Drawn0 w w' := by
  have g1 := hG.err1 (by rfl)
  have g2 := hG.err2 (by rfl)
  have g3 := hG.err3 (by rfl)
  have g4 := hG.err4 (by rfl)
  have g5 := hG.err5 (by rfl)
  have g6 := hG.err6 (by rfl)
  have g7 := hG.err7 (by rfl)
  have g8 := hG.err8 (by rfl)
  have g9 := hG.err9 (by rfl)
  have g10 := hG.err10 (by rfl)
  have g11 := hG.err11 (by rfl)
  have g12 := hG.err12 (by rfl)
  have g13 := hG.err13 (by rfl)
  have q1 := run_eq_err (hG.sent (by rfl)) 13 1
  rw [show ((13 : Int) == 1) = false from rfl] at q1
  have q2 := run_eq_err (hG.sent (by rfl)) 13 2
  rw [show ((13 : Int) == 2) = false from rfl] at q2
  have q3 := run_eq_err (hG.sent (by rfl)) 13 3
  rw [show ((13 : Int) == 3) = false from rfl] at q3
  have q4 := run_eq_err (hG.sent (by rfl)) 13 4
  rw [show ((13 : Int) == 4) = false from rfl] at q4
  have q5 := run_eq_err (hG.sent (by rfl)) 13 5
  rw [show ((13 : Int) == 5) = false from rfl] at q5
  have q6 := run_eq_err (hG.sent (by rfl)) 13 6
  rw [show ((13 : Int) == 6) = false from rfl] at q6
  have q7 := run_eq_err (hG.sent (by rfl)) 13 7
  rw [show ((13 : Int) == 7) = false from rfl] at q7
  have q8 := run_eq_err (hG.sent (by rfl)) 13 8
  rw [show ((13 : Int) == 8) = false from rfl] at q8
  have q9 := run_eq_err (hG.sent (by rfl)) 13 9
  rw [show ((13 : Int) == 9) = false from rfl] at q9
  have q10 := run_eq_err (hG.sent (by rfl)) 13 10
  rw [show ((13 : Int) == 10) = false from rfl] at q10
  have q11 := run_eq_err (hG.sent (by rfl)) 13 11
  rw [show ((13 : Int) == 11) = false from rfl] at q11
  have q12 := run_eq_err (hG.sent (by rfl)) 13 12
  rw [show ((13 : Int) == 12) = false from rfl] at q12
  have q13 := run_eq_err (hG.sent (by rfl)) 13 13
  rw [show ((13 : Int) == 13) = true from rfl] at q13
  clear hG
  go_enter Tryd.func25, Tryd.ntmps25
  go_wp2
  go_ret
  exact ⟨rfl, Drawn0.refl _⟩

theorem usherkit_Num.calls [Sent] (a0 : Option Int) (r : Int) (w : World) (h : usherkit_Num.f a0 = some r) (hG : Glob [3, 0, 2, 4, 5, 6, 7, 9, 10, 11, 12, 13, 14, 999] w) :
    Calls Tryd.prog 25 #[errW a0] w fun e w' => e = .returned (.int .i64 r) ∧ Drawn0 w w' := by
  cases a0 with
  | none =>
    unfold usherkit_Num.f at h
    obtain rfl := Option.some.inj h
    exact usherkit_Num.calls_none w
  | some c =>
    unfold usherkit_Num.f at h
    simp only at h
    split at h
    · rename_i hc
      obtain rfl := Option.some.inj h
      obtain ⟨h1, h2⟩ := hc
      rw [errW_some]
      obtain ⟨n, hn⟩ : ∃ n : Nat, c = n := ⟨c.toNat, by omega⟩
      subst hn
      match n, h1, h2 with
      | 1, _, _ => exact usherkit_Num.calls_1 w hG
      | 2, _, _ => exact usherkit_Num.calls_2 w hG
      | 3, _, _ => exact usherkit_Num.calls_3 w hG
      | 4, _, _ => exact usherkit_Num.calls_4 w hG
      | 5, _, _ => exact usherkit_Num.calls_5 w hG
      | 6, _, _ => exact usherkit_Num.calls_6 w hG
      | 7, _, _ => exact usherkit_Num.calls_7 w hG
      | 8, _, _ => exact usherkit_Num.calls_8 w hG
      | 9, _, _ => exact usherkit_Num.calls_9 w hG
      | 10, _, _ => exact usherkit_Num.calls_10 w hG
      | 11, _, _ => exact usherkit_Num.calls_11 w hG
      | 12, _, _ => exact usherkit_Num.calls_12 w hG
      | 13, _, _ => exact usherkit_Num.calls_13 w hG
      | 0, h1, _ => omega
      | n + 14, _, h2 => omega
    · cases h
end Go.Proofs.YtbkhgmmlacdhoaaDoor.Q
