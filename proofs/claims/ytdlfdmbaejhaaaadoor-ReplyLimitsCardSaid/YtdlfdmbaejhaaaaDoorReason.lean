/- The call of reply.Reason answers the phrase of a status, by the table of the phrases. Conditions: the table holds what its initialiser lays. -/
import Derived.Test.YtdlfdmbaejhaaaaDoorGlob
import Derived.Lib.Hide
set_option linter.unusedVariables false
set_option linter.unusedSimpArgs false
namespace Go.Proofs.YtdlfdmbaejhaaaaDoor.Q
open Go.RowKit Go.Proofs.YtdlfdmbaejhaaaaDoorW.PrintWords Go.Proofs.YtdlfdmbaejhaaaaDoorW.PrintLast Go.Proofs.YtdlfdmbaejhaaaaDoorW.PrintMore

/-- The phrase of a status. -/
def phraseOf (l : List (Int × List UInt8)) (s : Int) : ByteArray := match l with
  | [] => ⟨#[]⟩
  | x :: r => if x.1 = s then ⟨x.2.toArray⟩ else phraseOf r s
/-- What reply.Reason answers. -/
def reply_Reason.f (a0 : Int) : Option ByteArray := some (phraseOf phrasesL a0)
theorem phrases_length : phrasesL.length = 17 := by decide
theorem phrases_at (k : Nat) (hk : k < 17) : ∃ x, phrasesL[k]? = some x ∧ ∀ W, (Instr.index 98 (.agg phrasesV.toArray) (.int .i64 (k : Int))).run Tryd.prog W = .ok (.agg #[.int .i64 x.1, .string ⟨x.2.toArray⟩]) W :=
  match k, hk with
  | 0, _ => ⟨_, rfl, fun _ => by kernel_rfl⟩
  | 1, _ => ⟨_, rfl, fun _ => by kernel_rfl⟩
  | 2, _ => ⟨_, rfl, fun _ => by kernel_rfl⟩
  | 3, _ => ⟨_, rfl, fun _ => by kernel_rfl⟩
  | 4, _ => ⟨_, rfl, fun _ => by kernel_rfl⟩
  | 5, _ => ⟨_, rfl, fun _ => by kernel_rfl⟩
  | 6, _ => ⟨_, rfl, fun _ => by kernel_rfl⟩
  | 7, _ => ⟨_, rfl, fun _ => by kernel_rfl⟩
  | 8, _ => ⟨_, rfl, fun _ => by kernel_rfl⟩
  | 9, _ => ⟨_, rfl, fun _ => by kernel_rfl⟩
  | 10, _ => ⟨_, rfl, fun _ => by kernel_rfl⟩
  | 11, _ => ⟨_, rfl, fun _ => by kernel_rfl⟩
  | 12, _ => ⟨_, rfl, fun _ => by kernel_rfl⟩
  | 13, _ => ⟨_, rfl, fun _ => by kernel_rfl⟩
  | 14, _ => ⟨_, rfl, fun _ => by kernel_rfl⟩
  | 15, _ => ⟨_, rfl, fun _ => by kernel_rfl⟩
  | 16, _ => ⟨_, rfl, fun _ => by kernel_rfl⟩
  | n + 17, h => absurd h (by omega)

set_option maxHeartbeats 2000000 in
theorem reply_Reason.calls [Sent] (a0 : Int) (r : ByteArray) (w : World) (h : reply_Reason.f a0 = some r) (hG : Glob [8] w) :
    Calls Tryd.prog 37 #[.int .i64 a0] w fun e w' => e = .returned (.string r) ∧ Below w.heap.size w w' := by
  have hr : phraseOf phrasesL a0 = r := by unfold reply_Reason.f at h; injection h
  have HR := Aside0.mk hr
  clear h hr
  obtain ⟨ty, fr, hb⟩ := hG.phrases (by rfl)
  have HB0 := Aside0.mk hb
  clear hb hG
  have hinfo := Aside0.mk (show (Tryd.prog.info? 98).map (·.size) = some phrasesV.toArray.size from by kernel_rfl)
  go_enter Tryd.func37, Tryd.ntmps37
  go_wp2_with (refine wpList_load_row rfl 98 _ rfl 8 rfl ty phrasesV.toArray fr _ HB0.out Tryd.underlying98 rfl hinfo.out ?_)
  have hlen := Aside0.mk phrases_length
  generalize hV : phrasesV.toArray = V at *
  go_loopw [6] (fun i wr => ∃ k : Nat, k ≤ 17 ∧ i = .int .i64 k ∧ Aside0 (phraseOf (phrasesL.drop k) a0 = r) ∧ Aside0 (Below w.heap.size w wr)) (fun i _ => 17 - (intOf i).toNat)
  case atStart => exact ⟨0, by omega, rfl, HR, ⟨Below.refl _ _⟩⟩
  case round =>
    obtain ⟨k, hk, rfl, HP, HB⟩ := hrel
    by_cases hlt : k < 17
    · obtain ⟨x, hx, hidx⟩ := phrases_at k hlt
      rw [hV] at hidx
      have hd : phrasesL.drop k = x :: phrasesL.drop (k + 1) := by
        have hkl : k < phrasesL.length := by rw [hlen.out]; exact hlt
        rw [List.drop_eq_getElem_cons hkl]
        rw [List.getElem?_eq_getElem hkl] at hx
        injection hx with hx
        rw [hx]
      have hd' := Aside0.mk hd
      clear hd hx
      obtain ⟨x1, x2⟩ := x
      by_cases he : x1 = a0
      · have hb0 : (x1 == a0) = true := beq_iff_eq.2 he
        go_wp2
        go_ret
        have hp := HP.out
        rw [hd'.out] at hp
        simp only [phraseOf] at hp
        rw [if_pos he] at hp
        exact ⟨by rw [← hp]; rfl, HB.out.alloc (by exact Below.size HB.out) _⟩
      · have hb0 : (x1 == a0) = false := beq_eq_false_iff_ne.2 he
        have hp := HP.out
        rw [hd'.out] at hp
        simp only [phraseOf] at hp
        rw [if_neg he] at hp
        have HP2 := Aside0.mk hp
        clear hp HP
        go_wp2
        go_roundw
        case rel => exact ⟨k + 1, by omega, by go_num, HP2, ⟨HB.out.alloc (Below.size HB.out) _⟩⟩
        case measure => simp [intOf]; omega
    · obtain rfl : k = 17 := by omega
      go_wp2
      go_ret
      have hp := HP.out
      rw [List.drop_eq_nil_of_le (by rw [hlen.out]; exact Nat.le_refl _)] at hp
      exact ⟨by rw [← hp]; rfl, HB.out⟩
end Go.Proofs.YtdlfdmbaejhaaaaDoor.Q
