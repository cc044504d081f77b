/- The tables of the program (package variables that are arrays), read element by element. Conditions: none. -/
import Derived.Test.YtdlfdmbaejhaaaaDoorGlob
import Derived.Laws.Rows
set_option linter.unusedVariables false
set_option linter.unusedSimpArgs false
namespace Go.Proofs.YtdlfdmbaejhaaaaDoor.Q
open Go.RowKit Go.Proofs.YtdlfdmbaejhaaaaDoorW.PrintWords Go.Proofs.YtdlfdmbaejhaaaaDoorW.PrintLast Go.Proofs.YtdlfdmbaejhaaaaDoorW.PrintMore
def reply_phrases.c0 (i : Int) : Int := (phrasesL.getD i.toNat (0, [])).1
def reply_phrases.c1 (i : Int) : ByteArray := ⟨(phrasesL.getD i.toNat (0, [])).2.toArray⟩
theorem reply_phrases.index_at (k : Nat) (hk : k < 17) : ∃ x, phrasesL[k]? = some x ∧ ∀ W, (Instr.index 98 (.agg phrasesV.toArray) (.int .i64 (k : Int))).run Tryd.prog W = .ok (.agg #[.int .i64 x.1, .string ⟨x.2.toArray⟩]) W :=
  match k, hk with
  | 0, _ => ⟨_, rfl, fun _ => by kernel_rfl⟩
  | 1, _ => ⟨_, rfl, fun _ => by kernel_rfl⟩
  | 2, _ => ⟨_, rfl, fun _ => by kernel_rfl⟩
  | 3, _ => ⟨_, rfl, fun _ => by kernel_rfl⟩
  | 4, _ => ⟨_, rfl, fun _ => by kernel_rfl⟩
  | 5, _ => ⟨_, rfl, fun _ => by kernel_rfl⟩
  | 6, _ => ⟨_, rfl, fun _ => by kernel_rfl⟩
  | 7, _ => ⟨_, rfl, fun _ => by kernel_rfl⟩
  | 8, _ => ⟨_, rfl, fun _ => by kernel_rfl⟩
  | 9, _ => ⟨_, rfl, fun _ => by kernel_rfl⟩
  | 10, _ => ⟨_, rfl, fun _ => by kernel_rfl⟩
  | 11, _ => ⟨_, rfl, fun _ => by kernel_rfl⟩
  | 12, _ => ⟨_, rfl, fun _ => by kernel_rfl⟩
  | 13, _ => ⟨_, rfl, fun _ => by kernel_rfl⟩
  | 14, _ => ⟨_, rfl, fun _ => by kernel_rfl⟩
  | 15, _ => ⟨_, rfl, fun _ => by kernel_rfl⟩
  | 16, _ => ⟨_, rfl, fun _ => by kernel_rfl⟩
  | q + 17, h => absurd h (by omega)
theorem reply_phrases.index (i : Int) (h0 : 0 ≤ i) (h1 : i < 17) : ∀ W, (Instr.index 98 (.agg phrasesV.toArray) (.int .i64 i)).run Tryd.prog W = .ok (.agg #[.int .i64 (reply_phrases.c0 i), .string (reply_phrases.c1 i)]) W := by
  obtain ⟨k, rfl⟩ := Int.eq_ofNat_of_zero_le h0
  obtain ⟨x, hx, hi⟩ := reply_phrases.index_at k (by omega)
  have e : phrasesL.getD ((k : Int)).toNat (0, []) = x := by rw [Int.toNat_natCast, List.getD_eq_getElem?_getD, hx]; rfl
  unfold reply_phrases.c0 reply_phrases.c1
  rw [e]
  exact hi
theorem reply_phrases.size : (Tryd.prog.info? 98).map (·.size) = some phrasesV.toArray.size := by kernel_rfl
def reply_own.c0 (i : Int) : ByteArray := ⟨(ownL.getD i.toNat []).toArray⟩
theorem reply_own.index_at (k : Nat) (hk : k < 3) : ∃ x, ownL[k]? = some x ∧ ∀ W, (Instr.index 99 (.agg ownV.toArray) (.int .i64 (k : Int))).run Tryd.prog W = .ok (.string ⟨x.toArray⟩) W :=
  match k, hk with
  | 0, _ => ⟨_, rfl, fun _ => by kernel_rfl⟩
  | 1, _ => ⟨_, rfl, fun _ => by kernel_rfl⟩
  | 2, _ => ⟨_, rfl, fun _ => by kernel_rfl⟩
  | q + 3, h => absurd h (by omega)
theorem reply_own.index (i : Int) (h0 : 0 ≤ i) (h1 : i < 3) : ∀ W, (Instr.index 99 (.agg ownV.toArray) (.int .i64 i)).run Tryd.prog W = .ok (.string (reply_own.c0 i)) W := by
  obtain ⟨k, rfl⟩ := Int.eq_ofNat_of_zero_le h0
  obtain ⟨x, hx, hi⟩ := reply_own.index_at k (by omega)
  have e : ownL.getD ((k : Int)).toNat [] = x := by rw [Int.toNat_natCast, List.getD_eq_getElem?_getD, hx]; rfl
  unfold reply_own.c0
  rw [e]
  exact hi
theorem reply_own.size : (Tryd.prog.info? 99).map (·.size) = some ownV.toArray.size := by kernel_rfl
theorem reply_own.cell_at {w : World} (h : BlkV 9 ownV w) (k : Nat) (hk : k < 3) : ∃ x, ownL[k]? = some x ∧ w.cell? ⟨9, k, none⟩ = some (.string ⟨x.toArray⟩) := by
  obtain ⟨ty, fr, hb⟩ := h
  rw [cell_of_row w _ _ _ ty fr hb]
  match k, hk with
  | 0, _ => exact ⟨_, rfl, rfl⟩
  | 1, _ => exact ⟨_, rfl, rfl⟩
  | 2, _ => exact ⟨_, rfl, rfl⟩
  | q + 3, h => exact absurd h (by omega)
theorem reply_own.cell {w : World} (h : BlkV 9 ownV w) (i : Int) (h0 : 0 ≤ i) (h1 : i < 3) : w.cell? ⟨9, i.toNat, none⟩ = some (.string (reply_own.c0 i)) := by
  obtain ⟨x, hx, hc⟩ := reply_own.cell_at h i.toNat (by omega)
  have e : ownL.getD i.toNat [] = x := by rw [List.getD_eq_getElem?_getD, hx]; rfl
  unfold reply_own.c0
  rw [e]
  exact hc
def usherlaw8_statuses.c0 (i : Int) : Int := (statusesL.getD i.toNat 0)
theorem usherlaw8_statuses.index_at (k : Nat) (hk : k < 17) : ∃ x, statusesL[k]? = some x ∧ ∀ W, (Instr.index 78 (.agg statusesV.toArray) (.int .i64 (k : Int))).run Tryd.prog W = .ok (.int .i64 x) W :=
  match k, hk with
  | 0, _ => ⟨_, rfl, fun _ => by kernel_rfl⟩
  | 1, _ => ⟨_, rfl, fun _ => by kernel_rfl⟩
  | 2, _ => ⟨_, rfl, fun _ => by kernel_rfl⟩
  | 3, _ => ⟨_, rfl, fun _ => by kernel_rfl⟩
  | 4, _ => ⟨_, rfl, fun _ => by kernel_rfl⟩
  | 5, _ => ⟨_, rfl, fun _ => by kernel_rfl⟩
  | 6, _ => ⟨_, rfl, fun _ => by kernel_rfl⟩
  | 7, _ => ⟨_, rfl, fun _ => by kernel_rfl⟩
  | 8, _ => ⟨_, rfl, fun _ => by kernel_rfl⟩
  | 9, _ => ⟨_, rfl, fun _ => by kernel_rfl⟩
  | 10, _ => ⟨_, rfl, fun _ => by kernel_rfl⟩
  | 11, _ => ⟨_, rfl, fun _ => by kernel_rfl⟩
  | 12, _ => ⟨_, rfl, fun _ => by kernel_rfl⟩
  | 13, _ => ⟨_, rfl, fun _ => by kernel_rfl⟩
  | 14, _ => ⟨_, rfl, fun _ => by kernel_rfl⟩
  | 15, _ => ⟨_, rfl, fun _ => by kernel_rfl⟩
  | 16, _ => ⟨_, rfl, fun _ => by kernel_rfl⟩
  | q + 17, h => absurd h (by omega)
theorem usherlaw8_statuses.index (i : Int) (h0 : 0 ≤ i) (h1 : i < 17) : ∀ W, (Instr.index 78 (.agg statusesV.toArray) (.int .i64 i)).run Tryd.prog W = .ok (.int .i64 (usherlaw8_statuses.c0 i)) W := by
  obtain ⟨k, rfl⟩ := Int.eq_ofNat_of_zero_le h0
  obtain ⟨x, hx, hi⟩ := usherlaw8_statuses.index_at k (by omega)
  have e : statusesL.getD ((k : Int)).toNat 0 = x := by rw [Int.toNat_natCast, List.getD_eq_getElem?_getD, hx]; rfl
  unfold usherlaw8_statuses.c0
  rw [e]
  exact hi
theorem usherlaw8_statuses.size : (Tryd.prog.info? 78).map (·.size) = some statusesV.toArray.size := by kernel_rfl
theorem usherlaw8_statuses.cell_at {w : World} (h : BlkV 7 statusesV w) (k : Nat) (hk : k < 17) : ∃ x, statusesL[k]? = some x ∧ w.cell? ⟨7, k, none⟩ = some (.int .i64 x) := by
  obtain ⟨ty, fr, hb⟩ := h
  rw [cell_of_row w _ _ _ ty fr hb]
  match k, hk with
  | 0, _ => exact ⟨_, rfl, rfl⟩
  | 1, _ => exact ⟨_, rfl, rfl⟩
  | 2, _ => exact ⟨_, rfl, rfl⟩
  | 3, _ => exact ⟨_, rfl, rfl⟩
  | 4, _ => exact ⟨_, rfl, rfl⟩
  | 5, _ => exact ⟨_, rfl, rfl⟩
  | 6, _ => exact ⟨_, rfl, rfl⟩
  | 7, _ => exact ⟨_, rfl, rfl⟩
  | 8, _ => exact ⟨_, rfl, rfl⟩
  | 9, _ => exact ⟨_, rfl, rfl⟩
  | 10, _ => exact ⟨_, rfl, rfl⟩
  | 11, _ => exact ⟨_, rfl, rfl⟩
  | 12, _ => exact ⟨_, rfl, rfl⟩
  | 13, _ => exact ⟨_, rfl, rfl⟩
  | 14, _ => exact ⟨_, rfl, rfl⟩
  | 15, _ => exact ⟨_, rfl, rfl⟩
  | 16, _ => exact ⟨_, rfl, rfl⟩
  | q + 17, h => exact absurd h (by omega)
theorem usherlaw8_statuses.cell {w : World} (h : BlkV 7 statusesV w) (i : Int) (h0 : 0 ≤ i) (h1 : i < 17) : w.cell? ⟨7, i.toNat, none⟩ = some (.int .i64 (usherlaw8_statuses.c0 i)) := by
  obtain ⟨x, hx, hc⟩ := usherlaw8_statuses.cell_at h i.toNat (by omega)
  have e : statusesL.getD i.toNat 0 = x := by rw [List.getD_eq_getElem?_getD, hx]; rfl
  unfold usherlaw8_statuses.c0
  rw [e]
  exact hc
end Go.Proofs.YtdlfdmbaejhaaaaDoor.Q
