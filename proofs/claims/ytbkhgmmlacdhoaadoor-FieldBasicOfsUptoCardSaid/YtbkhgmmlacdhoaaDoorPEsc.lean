/- What pct.Escape and the document's own answer (with a plus for a blank). Conditions: a text has at most 1099511627776 bytes. -/
import Derived.Test.YtbkhgmmlacdhoaaDoorQ6
import Derived.Test.YtbkhgmmlacdhoaaDoorQ8
import Derived.Test.YtbkhgmmlacdhoaaDoorTool
import Derived.Test.YtbkhgmmlacdhoaaDoorUnres
set_option linter.unusedVariables false
set_option linter.unusedSimpArgs false
namespace Go.Proofs.YtbkhgmmlacdhoaaDoor.Q
open Go.RowKit Go.Proofs.YtbkhgmmlacdhoaaDoorW.PrintWords Go.Proofs.YtbkhgmmlacdhoaaDoorW.PrintLast Go.Proofs.YtbkhgmmlacdhoaaDoorW.PrintMore
def hexU : ByteArray := ⟨#[48, 49, 50, 51, 52, 53, 54, 55, 56, 57, 65, 66, 67, 68, 69, 70]⟩
/-- How one byte is written. -/
def escI (c : Int) : List Int := if unresB c = true then [c] else if c = 32 then [43] else [37, bt hexU (c / 16), bt hexU (c % 16)]
def escS (l : List Int) : List Int := l.flatMap escI
theorem wrapN (n : Nat) (h : n < 9223372036854775807) : wrap64 ((n : Int) + 1) = ((n + 1 : Nat) : Int) := by rw [wrap64_of (by omega)]; omega
theorem unres_at : ∀ c : Fin 256, usherref3_Unreserved.f (c.val : Int) = some (unresB (c.val : Int)) := by decide +kernel
theorem dig_at : ∀ c : Fin 256, usherref3_digit.f ((Int.tdiv (c.val : Int) 16) % 256) = some (bt hexU ((c.val : Int) / 16)) ∧ usherref3_digit.f (Int.tmod (c.val : Int) 16) = some (bt hexU ((c.val : Int) % 16)) := by decide +kernel
theorem unresR (c : Int) (h : 0 ≤ c ∧ c ≤ 255) : usherref3_Unreserved.f c = some (unresB c) := by
  have := unres_at ⟨c.toNat, by omega⟩
  simpa only [Int.toNat_of_nonneg h.1] using this
theorem digR (c : Int) (h : 0 ≤ c ∧ c ≤ 255) : usherref3_digit.f ((Int.tdiv c 16) % 256) = some (bt hexU (c / 16)) ∧ usherref3_digit.f (Int.tmod c 16) = some (bt hexU (c % 16)) := by
  have := dig_at ⟨c.toNat, by omega⟩
  simpa only [Int.toNat_of_nonneg h.1] using this
theorem unresP (c : Int) (h : 0 ≤ c ∧ c ≤ 255) : pct_isUnreserved.f c = some (unresB c) := by unfold pct_isUnreserved.f; rw [if_pos ⟨h.1, by omega⟩]
theorem escI_len (c : Int) : (escI c).length ≤ 3 := by
  unfold escI
  split
  · simp
  · split <;> simp
theorem escS_len (l : List Int) : (escS l).length ≤ 3 * l.length := by
  induction l with
  | nil => simp [escS]
  | cons a l ih =>
    have h1 := escI_len a
    have e : escS (a :: l) = escI a ++ escS l := by simp [escS]
    rw [e, List.length_append, List.length_cons]; omega
theorem escI_range (c : Int) (h : 0 ≤ c ∧ c ≤ 255) : ∀ x ∈ escI c, 0 ≤ x ∧ x ≤ 255 := by
  intro x hx
  unfold escI at hx
  split at hx
  · rw [List.mem_singleton] at hx; subst hx; exact h
  · split at hx
    · rw [List.mem_singleton] at hx; subst hx; omega
    · rcases List.mem_cons.1 hx with rfl | hx
      · omega
      · rcases List.mem_cons.1 hx with rfl | hx
        · exact bt_range _ _
        · rw [List.mem_singleton] at hx; subst hx; exact bt_range _ _
theorem escS_range (s : ByteArray) : ∀ x ∈ escS (bytesOf s), 0 ≤ x ∧ x ≤ 255 := by
  intro x hx
  obtain ⟨c, hc, hx⟩ := List.mem_flatMap.1 hx
  exact escI_range c (bytesOf_range hc) x hx
theorem Escape.ev (s : ByteArray) (hs : s.size ≤ 1099511627776) : Ev (fun k => pct_Escape.f k s true) (strOfNums (escS (bytesOf s))) := by
  have hl := bytesOf_length s
  have H : ∀ (d i : Nat) (acc : List Int), i + d = s.size → acc.length ≤ 3 * i → Ev (fun k => pct_Escape.l0 k s true acc (i : Int)) (strOfNums (acc ++ escS ((bytesOf s).drop i))) := by
    intro d
    induction d with
    | zero =>
      intro i acc hi _
      refine Ev.step (f := fun k => some (strOfNums acc)) (fun k => by rw [pct_Escape.l0, if_neg (by omega)]) ?_
      rw [List.drop_eq_nil_of_le (by omega)]
      simpa [escS] using Ev.now _
    | succ d ih =>
      intro i acc hi ha
      have hb := bt_range s (i : Int)
      have hd : (bytesOf s).drop i = bt s (i : Int) :: (bytesOf s).drop (i + 1) := by
        rw [bt_nat]; exact drop_cons _ i 0 (by omega)
      have he : escS ((bytesOf s).drop i) = escI (bt s (i : Int)) ++ escS ((bytesOf s).drop (i + 1)) := by rw [hd]; simp [escS]
      have hbig : (acc ++ [(0 : Int), 0, 0]).length < 140737488355328 := by simp; omega
      simp only [List.length_append, List.length_cons, List.length_nil] at hbig
      refine Ev.step (fun k => rfl) ?_
      simp only [pct_Escape.l0]
      refine Ev.if_pos (by omega) (Ev.if_pos (by omega) ?_)
      simp only [unresP _ hb, Option.bind_some, wrapN i (by omega)]
      rw [he]
      have hnext : ∀ x : List Int, x.length ≤ 3 → Ev (fun k => pct_Escape.l0 k s true (acc ++ x) ((i + 1 : Nat) : Int)) (strOfNums (acc ++ (x ++ escS ((bytesOf s).drop (i + 1))))) := by
        intro x hx
        rw [← List.append_assoc]
        exact ih (i + 1) (acc ++ x) (by omega) (by rw [List.length_append]; omega)
      by_cases hu : unresB (bt s (i : Int)) = true
      · have e : escI (bt s (i : Int)) = [bt s (i : Int)] := by unfold escI; rw [if_pos hu]
        rw [e]
        exact Ev.if_pos hu (Ev.if_pos (by omega) (hnext _ (by simp)))
      · refine Ev.if_neg hu ?_
        by_cases h32 : bt s (i : Int) = 32
        · have e : escI (bt s (i : Int)) = [43] := by unfold escI; rw [if_neg hu, if_pos h32]
          rw [e]
          refine Ev.if_pos h32 (Ev.step (fun k => rfl) ?_)
          simp only [pct_Escape.j1, wrapN i (by omega)]
          exact Ev.if_pos (by simp) (Ev.if_pos (by omega) (hnext _ (by simp)))
        · have e : escI (bt s (i : Int)) = [37, bt hexU (bt s (i : Int) / 16), bt hexU (bt s (i : Int) % 16)] := by unfold escI; rw [if_neg hu, if_neg h32]
          rw [e]
          refine Ev.if_neg h32 (Ev.step (fun k => rfl) ?_)
          simp only [pct_Escape.j1, wrapN i (by omega), Option.bind_some, u8_and15 _ hb.1 (Int.lt_of_le_of_lt hb.2 (by decide)), List.length_append, List.length_cons, List.length_nil, List.append_assoc, List.cons_append, List.nil_append]
          refine Ev.if_neg (by simp) ?_
          refine Ev.if_pos (by omega) (Ev.if_pos (by omega) (Ev.if_pos (by omega) (Ev.if_pos (by omega) (Ev.if_pos (by omega) (Ev.if_pos (by omega) (Ev.if_pos (by omega) ?_))))))
          exact hnext [37, bt hexU (bt s (i : Int) / 16), bt hexU (bt s (i : Int) % 16)] (by simp)
  have := H s.size 0 [] (by omega) (by simp)
  simpa [pct_Escape.f] using this
theorem EscapeR.ev (s : ByteArray) (hs : s.size ≤ 1099511627776) : Ev (fun k => usherref3_Escape.f k s true) (strOfNums (escS (bytesOf s))) := by
  have hl := bytesOf_length s
  have H : ∀ (d i : Nat) (acc : List Int), i + d = s.size → acc.length ≤ 3 * i → Ev (fun k => usherref3_Escape.l0 k s true acc (i : Int)) (strOfNums (acc ++ escS ((bytesOf s).drop i))) := by
    intro d
    induction d with
    | zero =>
      intro i acc hi _
      refine Ev.step (f := fun k => some (strOfNums acc)) (fun k => by rw [usherref3_Escape.l0, if_neg (by omega)]) ?_
      rw [List.drop_eq_nil_of_le (by omega)]
      simpa [escS] using Ev.now _
    | succ d ih =>
      intro i acc hi ha
      have hb := bt_range s (i : Int)
      have hd : (bytesOf s).drop i = bt s (i : Int) :: (bytesOf s).drop (i + 1) := by
        rw [bt_nat]; exact drop_cons _ i 0 (by omega)
      have he : escS ((bytesOf s).drop i) = escI (bt s (i : Int)) ++ escS ((bytesOf s).drop (i + 1)) := by rw [hd]; simp [escS]
      refine Ev.step (fun k => rfl) ?_
      simp only [usherref3_Escape.l0]
      refine Ev.if_pos (by omega) (Ev.if_pos (by omega) ?_)
      simp only [unresR _ hb, Option.bind_some, wrapN i (by omega), if_true]
      rw [he]
      have hnext : ∀ x : List Int, x.length ≤ 3 → Ev (fun k => usherref3_Escape.l0 k s true (acc ++ x) ((i + 1 : Nat) : Int)) (strOfNums (acc ++ (x ++ escS ((bytesOf s).drop (i + 1))))) := by
        intro x hx
        rw [← List.append_assoc]
        exact ih (i + 1) (acc ++ x) (by omega) (by rw [List.length_append]; omega)
      by_cases hu : unresB (bt s (i : Int)) = true
      · have e : escI (bt s (i : Int)) = [bt s (i : Int)] := by unfold escI; rw [if_pos hu]
        rw [e]
        exact Ev.if_pos hu (Ev.if_pos (by omega) (hnext _ (by simp)))
      · refine Ev.if_neg hu ?_
        refine Ev.step (fun k => rfl) ?_
        by_cases h32 : bt s (i : Int) = 32
        · have e : escI (bt s (i : Int)) = [43] := by unfold escI; rw [if_neg hu, if_pos h32]
          rw [e]
          simp only [usherref3_Escape.j1, wrapN i (by omega)]
          exact Ev.if_pos (by simp [h32]) (Ev.if_pos (by omega) (hnext _ (by simp)))
        · have e : escI (bt s (i : Int)) = [37, bt hexU (bt s (i : Int) / 16), bt hexU (bt s (i : Int) % 16)] := by unfold escI; rw [if_neg hu, if_neg h32]
          rw [e]
          simp only [usherref3_Escape.j1, wrapN i (by omega), Option.bind_some, (digR _ hb).1, (digR _ hb).2, List.length_append, List.length_cons, List.length_nil, List.append_assoc, List.cons_append, List.nil_append]
          refine Ev.if_neg (by simpa using h32) ?_
          refine Ev.if_pos (by omega) (Ev.if_pos (by omega) (Ev.if_pos (by omega) ?_))
          exact hnext [37, bt hexU (bt s (i : Int) / 16), bt hexU (bt s (i : Int) % 16)] (by simp)
  have := H s.size 0 [] (by omega) (by simp)
  simpa [usherref3_Escape.f] using this
theorem escS_size (s : ByteArray) : (strOfNums (escS (bytesOf s))).size ≤ 3 * s.size := by
  have h1 := escS_len (bytesOf s)
  have h2 := bytesOf_length s
  rw [size_eq, bytesOf_strOfNums (escS_range s)]
  omega
end Go.Proofs.YtbkhgmmlacdhoaaDoor.Q
