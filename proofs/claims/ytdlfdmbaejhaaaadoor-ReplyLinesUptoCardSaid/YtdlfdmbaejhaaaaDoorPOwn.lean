/- What usherlaw8's small and own answer, as plain functions of the bytes. Conditions: a text has at most 2^40 bytes. -/
import Derived.Test.YtdlfdmbaejhaaaaDoorQ16
import Derived.Test.YtdlfdmbaejhaaaaDoorPMay
set_option linter.unusedVariables false
set_option linter.unusedSimpArgs false
namespace Go.Proofs.YtdlfdmbaejhaaaaDoor.Q
open Go.RowKit Go.Proofs.YtdlfdmbaejhaaaaDoorW.PrintWords Go.Proofs.YtdlfdmbaejhaaaaDoorW.PrintLast Go.Proofs.YtdlfdmbaejhaaaaDoorW.PrintMore
theorem nat_snoc (l : List UInt8) (b : UInt8) : nat l ++ [(b.toNat : Int)] = nat (l ++ [b]) := by simp [nat]
theorem drop_get (l : List UInt8) {i : Nat} (h : i < l.length) : l.drop i = l[i] :: l.drop (i + 1) := List.drop_eq_getElem_cons h
/-! ### small, own -/
def lowB (b : UInt8) : UInt8 := if 65 ≤ b ∧ b ≤ 90 then b + 32 else b
theorem lowB_at : ∀ c : Fin 256, (if (c.val : Int) ≥ 65 then (if (c.val : Int) ≤ 90 then ((c.val : Int) + 32) % 256 else (c.val : Int)) else (c.val : Int)) = ((lowB (UInt8.ofNat c.val)).toNat : Int) := by decide +kernel
theorem lowB_of (b : UInt8) : (if (b.toNat : Int) ≥ 65 then (if (b.toNat : Int) ≤ 90 then ((b.toNat : Int) + 32) % 256 else (b.toNat : Int)) else (b.toNat : Int)) = ((lowB b).toNat : Int) := by
  have := lowB_at ⟨b.toNat, b.toNat_lt⟩
  simpa using this
theorem small.ev (s : ByteArray) (hs : s.size ≤ 1099511627776) : Ev (fun k => usherlaw8_small.f k s) (mk (lowU (U s))) := by
  have hz := size_U s
  have H := Ev.loop (F := fun k (x : List UInt8 × Nat) => usherlaw8_small.l0 k s (nat x.1) (x.2 : Int)) (r := fun x => mk (x.1 ++ lowU ((U s).drop x.2))) (fun x => x.2 ≤ (U s).length ∧ x.1.length ≤ x.2) (fun x => (U s).length - x.2) (by
    rintro ⟨a, i⟩ ⟨hi, ha⟩ ih
    dsimp only at hi ha
    simp only [usherlaw8_small.l0]
    by_cases h : i < (U s).length
    · refine Ev.if_pos (by omega) (Ev.if_pos (by omega) ?_)
      rw [drop_get _ h]
      simp only [bt_U s i h]
      generalize (U s)[i] = b at *
      have hl := lowB_of b
      have e : lowU (b :: (U s).drop (i + 1)) = lowB b :: lowU ((U s).drop (i + 1)) := rfl
      rw [e, wrap64_of (by omega)]
      have := ih (a ++ [lowB b], i + 1) ⟨by dsimp only; omega, by simp; omega⟩ (by dsimp only; omega)
      simp only [List.append_assoc, List.cons_append, List.nil_append] at this
      have hn := nat_length a
      rw [← nat_snoc, ← hl] at this
      by_cases h1 : (b.toNat : Int) ≥ 65
      · by_cases h2 : (b.toNat : Int) ≤ 90
        · rw [if_pos h1, if_pos h2] at this
          exact Ev.if_pos h1 (Ev.if_pos h2 (Ev.if_pos (by omega) this))
        · rw [if_pos h1, if_neg h2] at this
          exact Ev.if_pos h1 (Ev.if_neg h2 (Ev.if_pos (by omega) this))
      · rw [if_neg h1] at this
        exact Ev.if_neg h1 (Ev.if_pos (by omega) this)
    · refine Ev.if_neg (by omega) ?_
      rw [List.drop_eq_nil_of_le (by omega), strOf_nat]
      refine Ev.eq (Ev.now _) ?_
      simp [lowU]) ([], 0) ⟨by dsimp only; omega, by simp⟩
  simpa [usherlaw8_small.f, nat] using H
theorem own_eq : ownL = [[99, 111, 110, 116, 101, 110, 116, 45, 108, 101, 110, 103, 116, 104], [99, 111, 110, 110, 101, 99, 116, 105, 111, 110], [116, 114, 97, 110, 115, 102, 101, 114, 45, 101, 110, 99, 111, 100, 105, 110, 103]] := by decide +kernel
theorem own.ev (s : ByteArray) (hs : s.size ≤ 1099511627776) : Ev (fun k => usherlaw8_own.f k s) (ownB (U s)) := by
  simp only [usherlaw8_own.f]
  refine (small.ev s hs).bind ?_
  unfold ownB ownU
  rw [own_eq, toList_U, U_mk]
  by_cases h1 : lowU (U s) = [99, 111, 110, 116, 101, 110, 116, 45, 108, 101, 110, 103, 116, 104]
  · exact Ev.if_pos h1 (Ev.eq (Ev.now _) (by rw [h1]; rfl))
  · refine Ev.if_neg h1 ?_
    by_cases h2 : lowU (U s) = [99, 111, 110, 110, 101, 99, 116, 105, 111, 110]
    · exact Ev.if_pos h2 (Ev.eq (Ev.now _) (by rw [h2]; rfl))
    · refine Ev.if_neg h2 (Ev.eq (Ev.now _) ?_)
      rw [Bool.eq_iff_iff]; simp [h1, h2]
end Go.Proofs.YtdlfdmbaejhaaaaDoor.Q
