/- The library's calls strings.HasPrefix, HasSuffix, TrimSuffix, CutPrefix, Index, Cut, Split in the printed contracts' shape. Conditions: the text has fewer than 4294967281 bytes where it is searched. -/
import Derived.Test.YtdlfdmbaejhaaaaDoorGlob
import Derived.Test.YtdlfdmbaejhaaaaDoorShelf
import Derived.Lib.SplitLaws
set_option linter.unusedVariables false
set_option linter.unusedSimpArgs false
namespace Go.Proofs.YtdlfdmbaejhaaaaDoor.Q
open Go.RowKit Go.Proofs.YtdlfdmbaejhaaaaDoorW.PrintWords Go.Proofs.YtdlfdmbaejhaaaaDoorW.PrintLast Go.Proofs.YtdlfdmbaejhaaaaDoorW.PrintMore
theorem same_drawn {w w' : World} (h : w' = w) : Drawn0 w w' := by subst h; exact Drawn0.refl _
theorem drawn_of {w w' : World} (h : ∃ n, w' = w.drewN n) : Drawn0 w w' := by obtain ⟨n, rfl⟩ := h; exact ⟨n, rfl⟩
def strings_HasPrefix.f (a0 a1 : ByteArray) : Option Bool := some (Lib.hasPrefix a0.data.toList a1.data.toList)
theorem strings_HasPrefix.calls (a0 a1 : ByteArray) (r : Bool) (w : World) (h : strings_HasPrefix.f a0 a1 = some r) :
    Calls Tryd.prog 97 #[.string a0, .string a1] w fun e w' => e = .returned (.bool r) ∧ Drawn0 w w' := by
  unfold strings_HasPrefix.f at h
  injection h with h
  exact (Tryd.strings_HasPrefix a0 a1 w).mono fun e w' ⟨h1, h2⟩ => ⟨by rw [h1, h], same_drawn h2⟩
def strings_TrimSuffix.f (a0 a1 : ByteArray) : Option ByteArray := if a0.size ≤ 9223372036854775807 then some ⟨(Lib.trimSuffix a0.data.toList a1.data.toList).toArray⟩ else none
theorem strings_TrimSuffix.calls (a0 a1 : ByteArray) (r : ByteArray) (w : World) (h : strings_TrimSuffix.f a0 a1 = some r) :
    Calls Tryd.prog 95 #[.string a0, .string a1] w fun e w' => e = .returned (.string r) ∧ Drawn0 w w' := by
  unfold strings_TrimSuffix.f at h
  split at h
  · rename_i hs; injection h with h
    exact (Tryd.strings_TrimSuffix a0 a1 w hs).mono fun e w' ⟨h1, h2⟩ => ⟨by rw [h1, h], same_drawn h2⟩
  · cases h
def strings_Index.f (a0 a1 : ByteArray) : Option Int := if a0.size < 4294967281 then some (Lib.index a0.data.toList a1.data.toList) else none
theorem strings_Index.calls [Sent] (a0 a1 : ByteArray) (r : Int) (w : World) (h : strings_Index.f a0 a1 = some r) (hG : Glob [18] w) :
    Calls Tryd.prog 54 #[.string a0, .string a1] w fun e w' => e = .returned (.int .i64 r) ∧ Drawn0 w w' := by
  unfold strings_Index.f at h
  obtain ⟨m, hm⟩ := hG.maxLen (by rfl)
  split at h
  · rename_i hs; injection h with h
    exact (Tryd.strings_Index a0 a1 m w hs hm).mono fun e w' ⟨h1, h2⟩ => ⟨by rw [h1, h], same_drawn h2⟩
  · cases h
def strings_Cut.f (a0 a1 : ByteArray) : Option (ByteArray × ByteArray × Bool) := if a0.size < 4294967281 then some (⟨(Lib.cut a0.data.toList a1.data.toList).1.toArray⟩, ⟨(Lib.cut a0.data.toList a1.data.toList).2.1.toArray⟩, (Lib.cut a0.data.toList a1.data.toList).2.2) else none
theorem strings_Cut.calls [Sent] (a0 a1 : ByteArray) (r1 : ByteArray) (r2 : ByteArray) (r3 : Bool) (w : World) (h : strings_Cut.f a0 a1 = some (r1, r2, r3)) (hG : Glob [18] w) :
    Calls Tryd.prog 77 #[.string a0, .string a1] w fun e w' => e = .returned (.tuple #[.string r1, .string r2, .bool r3]) ∧ Drawn0 w w' := by
  unfold strings_Cut.f at h
  obtain ⟨m, hm⟩ := hG.maxLen (by rfl)
  split at h
  · rename_i hs
    simp only [Option.some.injEq, Prod.mk.injEq] at h
    obtain ⟨rfl, rfl, rfl⟩ := h
    exact (Tryd.strings_Cut a0 a1 m w hs hm).mono fun e w' ⟨h1, h2⟩ => ⟨h1, drawn_of h2⟩
  · cases h
def strings_Split.f (a0 a1 : ByteArray) : Option (List ByteArray) := if a0.size < 4294967281 ∧ 1 ≤ a1.size then some (Lib.splitB a1 0 (Lib.countB a0 a1) a0) else none
theorem strings_Split.calls [Sent] (a0 a1 : ByteArray) (r : List ByteArray) (w : World) (h : strings_Split.f a0 a1 = some r) (hG : Glob [18] w) :
    Calls Tryd.prog 48 #[.string a0, .string a1] w fun e w' => ∃ v0_ : Value, e = .returned v0_ ∧ Kd.R Kd.string 9 w' w.heap.size (fun _ => True) v0_ r ∧ Below w.heap.size w w' := by
  unfold strings_Split.f at h
  obtain ⟨m, hm⟩ := hG.maxLen (by rfl)
  split at h
  · rename_i hs
    obtain ⟨hs, h1⟩ := hs
    injection h with h
    have hl := Lib.splitB_all a1 h1 0 _ a0 rfl
    have hc := Lib.countB_le a1 h1 _ a0 (Nat.le_refl _)
    refine (Tryd.strings_Split a0 a1 m w hs hm h1).mono fun e w' ⟨h2, h3⟩ => ⟨_, h2, ?_, ?_⟩
    · subst h
      refine Kd.R_of_own (h1 := fun _ => rfl) ?_ (fun _ _ => trivial)
      rw [hl, h3]
      refine ⟨by simp [encs, hl], Or.inr ⟨w.heap.size, _, _, rfl, Nat.le_refl _, blk_new w _, Nat.le_refl _, by unfold maxLen; omega, by simp [hl], ?_⟩⟩
      rw [Nat.mul_one, List.take_of_length_le (by simp [hl])]; rfl
    · rw [h3]; exact below_alloc (Below.refl _ _) _
  · cases h
end Go.Proofs.YtdlfdmbaejhaaaaDoor.Q
