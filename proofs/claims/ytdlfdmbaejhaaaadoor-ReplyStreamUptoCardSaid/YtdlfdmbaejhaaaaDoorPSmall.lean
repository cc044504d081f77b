/- Answers that go in, small: what Render and Read make of them. Conditions: what goes in has at most 1048576 bytes in all. -/
import Derived.Test.YtdlfdmbaejhaaaaDoorPTidyL
set_option linter.unusedVariables false
set_option linter.unusedSimpArgs false
namespace Go.Proofs.YtdlfdmbaejhaaaaDoor.Q
open Go.RowKit Go.Proofs.YtdlfdmbaejhaaaaDoorW.PrintWords Go.Proofs.YtdlfdmbaejhaaaaDoorW.PrintLast Go.Proofs.YtdlfdmbaejhaaaaDoorW.PrintMore
theorem bulk_mem {fs : List S26} {x : S26} (h : x ∈ fs) : x.f0.size + x.f1.size ≤ (fs.map fun x => x.f0.size + x.f1.size).sum := by
  induction fs with
  | nil => cases h
  | cons y fs ih =>
    rw [List.map_cons, List.sum_cons]
    rcases List.mem_cons.1 h with rfl | h
    · omega
    · have := ih h; omega
/-- An answer that goes in, small. -/
structure Small (fs : List S26) (b : ByteArray) : Prop where
  len : fs.length < 4398046511104
  sum : (fs.map fun x => x.f0.size + x.f1.size).sum ≤ 1048576
  body : b.size ≤ 1048576
theorem Render_valid {p : Int × List UInt8} {gs : List PU} {b : ByteArray} (hv : Valid p gs (U b).length) (hz : bulkP gs ≤ 35184372088832) (c bare : Bool) :
    Ev (fun k => reply_Render.f k p.1 (gs.map unP) b c bare) (mk (textU p gs (U b) c bare), none) := by
  have := reply_Render.ev p.1 (gs.map unP) b c bare (by rw [map_unP]; exact hz)
  rw [map_unP, renderU_valid hv] at this
  exact this
theorem textU_len {p : Int × List UInt8} {gs : List PU} {b : List UInt8} (hp : p ∈ phrasesL) (hv : Valid p gs b.length) (c bare : Bool) : (textU p gs b c bare).length ≤ 300 + bulkP gs + b.length := by
  have h := lines_headLs p gs b.length c hp hv.big
  unfold textU
  rw [List.length_append, List.length_append]
  cases bare
  · rw [if_neg (by simp)]; simp only [List.length_cons, List.length_nil]; omega
  · rw [if_pos rfl]; simp only [List.length_cons, List.length_nil]; omega
/-- At most 64 fields of a tidied answer, and so many bytes. -/
theorem Small.tidy' {fs : List S26} {b : ByteArray} (h : Small fs b) (s : Int) (c : Bool) :
    ∃ p gs, p ∈ phrasesL ∧ Valid p gs (U b).length ∧ bulkP gs ≤ 1048896 ∧ Ev (fun k => usherlaw8_tidy.f k s fs b c) (p.1, gs.map unP, b, c) := by
  have hb := h.body
  have hl := h.len
  have hz := size_U b
  obtain ⟨p, hp, ht⟩ := tidy.ev s fs b c (by omega) h.len (fun x hx => by have h1 := bulk_mem hx; have h2 := h.sum; omega)
  have e : (U b).take 1048576 = U b := List.take_of_length_le (by omega)
  have hv := tidy_valid hp (fs.map pU) (U b)
  rw [e] at ht hv
  rw [mk_U] at ht
  refine ⟨p, tidyP (fs.map pU), hp, hv, ?_, ht⟩
  have h1 : ∀ (n : Nat) (l : List PU), bulkP ((l.take n).map tidyQ) ≤ (l.map fun q => q.1.length + q.2.length).sum + 5 * n := by
    intro n
    induction n with
    | zero => intro l; simp [bulkP]
    | succ n ih =>
      intro l
      cases l with
      | nil => simp [bulkP]
      | cons q l =>
        have h1 := nameU_len q.1
        have h2 := valueU_len q.2
        have h3 := ih l
        have e1 : bulkP (((q :: l).take (n + 1)).map tidyQ) = (nameU q.1).length + (valueU q.2).length + 4 + bulkP ((l.take n).map tidyQ) := rfl
        rw [e1, List.map_cons, List.sum_cons]; omega
  have h2 := h1 64 (fs.map pU)
  have e2 : ((fs.map pU).map fun q => q.1.length + q.2.length) = fs.map fun x => x.f0.size + x.f1.size := by
    rw [List.map_map]
    refine List.map_congr_left fun x _ => ?_
    simp only [Function.comp, pU, size_U]
  rw [e2] at h2
  have h3 := h.sum
  unfold tidyP
  omega
/-- Where it stands in a beginning, it stands in the whole. -/
theorem index_take (l sub : List UInt8) (k : Nat) (h : 0 ≤ Lib.index (l.take k) sub) (hs : sub ≠ []) : Lib.index l sub = Lib.index (l.take k) sub ∧ Lib.index (l.take k) sub + sub.length ≤ k := by
  have hroom := Lib.index_room (l.take k) sub h
  rw [List.length_take] at hroom
  rcases Lib.index_spec (l.take k) sub with ⟨e, _⟩ | ⟨i, e, hi, ho, hn⟩
  · omega
  · rw [e] at hroom ⊢
    have hp : 0 < sub.length := List.length_pos_iff.2 hs
    have occ : ∀ j : Nat, j + sub.length ≤ k → Lib.occAt (l.take k) sub j = Lib.occAt l sub j := by
      intro j hj
      unfold Lib.occAt
      rw [Bool.eq_iff_iff, List.isPrefixOf_iff_prefix, List.isPrefixOf_iff_prefix, List.drop_take]
      constructor
      · exact fun h => h.trans (List.take_prefix _ _)
      · intro h
        rw [List.prefix_take_iff]
        exact ⟨h, by omega⟩
    refine ⟨Lib.index_first (by omega) ?_ ?_, by omega⟩
    · rw [← occ i (by omega)]; exact ho
    · intro j hj
      rw [← occ j (by omega)]
      exact hn j hj
/-- A proper beginning of an answer's text is short. -/
theorem readU_cut {p : Int × List UInt8} {fs : List PU} {b : List UInt8} (h : Valid p fs b.length) (c : Bool) (k : Nat) (hk : k < (textU p fs b c false).length) :
    readU ((textU p fs b c false).take k) = shortR := by
  have hl := head_lines h c
  have e : textU p fs b c false = joinL (headLs p fs b.length c) ++ (emptyL ++ b) := by
    unfold textU; rw [if_neg (by simp)]; rfl
  have hi := head_empty h c b
  have hs := scan_valid h c _ rfl
  have h4 : emptyL.length = 4 := rfl
  have htl : (textU p fs b c false).length = (joinL (headLs p fs b.length c)).length + 4 + b.length := by
    rw [e, List.length_append, List.length_append]; omega
  rw [htl] at hk
  rw [e]
  unfold readU
  by_cases hn : Lib.index ((joinL (headLs p fs b.length c) ++ (emptyL ++ b)).take k) emptyL < 0
  · rw [if_pos hn]
  · rw [if_neg hn]
    obtain ⟨h1, h2⟩ := index_take (joinL (headLs p fs b.length c) ++ (emptyL ++ b)) emptyL k (by omega) (by simp [emptyL])
    rw [← h1, hi] at h2 ⊢
    dsimp only
    rw [Int.toNat_natCast, List.take_take, Nat.min_eq_left (by omega), List.take_left, splitU_join _ hl.1 hl.2.1, hs]
    dsimp only
    rw [if_pos rfl, if_pos (by rw [List.length_take]; omega)]
end Go.Proofs.YtdlfdmbaejhaaaaDoor.Q
