/- Texts of lines: where the first empty line begins, what the lines are, what stands ahead of a mark. Plain laws; no program stands in them. Conditions: each law's own. -/
import Derived.Test.YtdlfdmbaejhaaaaDoorTool
import Derived.Lib.SplitLaws
import Derived.Lib.IndexMore
set_option linter.unusedVariables false
set_option linter.unusedSimpArgs false
namespace Go.Proofs.YtdlfdmbaejhaaaaDoor.Q
open Go.RowKit Go.Proofs.YtdlfdmbaejhaaaaDoorW.PrintWords Go.Proofs.YtdlfdmbaejhaaaaDoorW.PrintLast Go.Proofs.YtdlfdmbaejhaaaaDoorW.PrintMore
/-- A text's bytes. -/
def U (s : ByteArray) : List UInt8 := s.data.toList
def nat (l : List UInt8) : List Int := l.map fun b => (b.toNat : Int)
def mk (l : List UInt8) : ByteArray := ⟨l.toArray⟩
@[simp] theorem U_mk (l : List UInt8) : U (mk l) = l := by simp [U, mk]
@[simp] theorem mk_U (s : ByteArray) : mk (U s) = s := by cases s; simp [U, mk]
theorem U_inj {s t : ByteArray} (h : U s = U t) : s = t := by rw [← mk_U s, ← mk_U t, h]
theorem U_app (s t : ByteArray) : U (s ++ t) = U s ++ U t := by simp [U]
theorem toList_U (s : ByteArray) : s.toList = U s := ByteArray.toList_eq s
theorem size_U (s : ByteArray) : s.size = (U s).length := by simp [U]
theorem mk_size (l : List UInt8) : (mk l).size = l.length := by simp [size_U]
theorem bytesOf_U (s : ByteArray) : bytesOf s = nat (U s) := rfl
theorem nat_app (a b : List UInt8) : nat (a ++ b) = nat a ++ nat b := by simp [nat]
theorem nat_length (a : List UInt8) : (nat a).length = a.length := by simp [nat]
theorem strOf_nat (l : List UInt8) : strOfNums (nat l) = mk l := by
  have : bytesOf (mk l) = nat l := by rw [bytesOf_U, U_mk]
  rw [← this, strOfNums_bytesOf]
theorem U_extract (s : ByteArray) (a b : Nat) : U (s.extract a b) = ((U s).take b).drop a := by
  unfold U; rw [Lib.extract_data, List.drop_take]
theorem U_extract_end (s : ByteArray) (a : Nat) : U (s.extract a s.size) = (U s).drop a := by
  unfold U; rw [Lib.extract_to_end]
theorem U_empty : U (⟨#[]⟩ : ByteArray) = [] := rfl
/-! ### a mark whose first byte stands nowhere in what is ahead of it -/
theorem prefix_no {c : UInt8} {sub l : List UInt8} {b : UInt8} (h : b ≠ c) : (c :: sub).isPrefixOf (b :: l) = false := by
  simp [List.isPrefixOf, Ne.symm h]
theorem index_ahead {c : UInt8} {sub : List UInt8} (a r : List UInt8) (ha : ∀ b ∈ a, b ≠ c) : Lib.index (a ++ ((c :: sub) ++ r)) (c :: sub) = a.length := by
  induction a with
  | nil =>
    show Lib.index (c :: (sub ++ r)) (c :: sub) = _
    unfold Lib.index
    rw [if_pos (by rw [List.isPrefixOf_iff_prefix]; exact ⟨r, by simp⟩)]; rfl
  | cons b a ih =>
    have ih := ih (fun x hx => ha x (List.mem_cons_of_mem _ hx))
    show Lib.index (b :: (a ++ ((c :: sub) ++ r))) (c :: sub) = _
    unfold Lib.index
    rw [prefix_no (ha b List.mem_cons_self), ih]
    have : ((a.length : Int) == -1) = false := by rw [beq_eq_false_iff_ne]; omega
    simp [this]
theorem index_never {c : UInt8} {sub : List UInt8} (a : List UInt8) (ha : ∀ b ∈ a, b ≠ c) : Lib.index a (c :: sub) = -1 := by
  induction a with
  | nil => simp [Lib.index]
  | cons b a ih =>
    have ih := ih (fun x hx => ha x (List.mem_cons_of_mem _ hx))
    unfold Lib.index
    rw [prefix_no (ha b List.mem_cons_self), ih]
    simp
theorem cut_ahead {c : UInt8} {sub : List UInt8} (a r : List UInt8) (ha : ∀ b ∈ a, b ≠ c) : Lib.cut (a ++ ((c :: sub) ++ r)) (c :: sub) = (a, r, true) := by
  unfold Lib.cut
  rw [index_ahead a r ha, if_pos (by omega)]
  simp only [Int.toNat_natCast, Prod.mk.injEq, and_true]
  refine ⟨by rw [List.take_left], ?_⟩
  rw [show a ++ ((c :: sub) ++ r) = (a ++ (c :: sub)) ++ r by simp, List.drop_append_of_le_length (by simp), List.drop_of_length_le (by simp), List.nil_append]
/-! ### lines -/
def crlf : List UInt8 := [13, 10]
/-- Lines, with a line's end between two of them. -/
def joinL : List (List UInt8) → List UInt8
  | [] => []
  | [a] => a
  | a :: r => a ++ (crlf ++ joinL r)
theorem joinL_cons (a : List UInt8) (r : List (List UInt8)) (h : r ≠ []) : joinL (a :: r) = a ++ (crlf ++ joinL r) := by
  cases r with
  | nil => exact absurd rfl h
  | cons b r => rfl
theorem index_line (a r : List UInt8) (ha : ∀ b ∈ a, b ≠ 13) : Lib.index (a ++ (crlf ++ r)) crlf = a.length := index_ahead (c := 13) (sub := [10]) a r ha
theorem index_last (a : List UInt8) (ha : ∀ b ∈ a, b ≠ 13) : Lib.index a crlf = -1 := index_never (c := 13) (sub := [10]) a ha
/-- Where the first empty line begins. -/
theorem index_empty : ∀ (ls : List (List UInt8)) (r : List UInt8), ls ≠ [] → (∀ l ∈ ls, ∀ b ∈ l, b ≠ 13) → (∀ l ∈ ls.tail, l ≠ []) → Lib.index (joinL ls ++ ([13, 10, 13, 10] ++ r)) [13, 10, 13, 10] = (joinL ls).length := by
  intro ls
  induction ls with
  | nil => intro r h; exact absurd rfl h
  | cons a ls ih =>
    intro r _ hc hn
    cases ls with
    | nil => exact index_ahead (c := 13) (sub := [10, 13, 10]) a r (hc a List.mem_cons_self)
    | cons b ls =>
      have ih := ih r (by simp) (fun l hl => hc l (List.mem_cons_of_mem _ hl)) (fun l hl => hn l (by simp only [List.tail_cons] at *; exact List.mem_cons_of_mem _ hl))
      have hb : b ≠ [] := hn b (by simp)
      have hb13 : ∀ x ∈ b, x ≠ 13 := hc b (by simp)
      have hmain : Lib.index (joinL (b :: ls) ++ ([13, 10, 13, 10] ++ r)) [13, 10, 13, 10] = ((joinL (b :: ls)).length : Int) := ih
      obtain ⟨x, t, ht⟩ : ∃ x t, joinL (b :: ls) ++ ([13, 10, 13, 10] ++ r) = x :: t ∧ x ≠ 13 := by
        cases b with
        | nil => exact absurd rfl hb
        | cons x b' =>
          cases ls with
          | nil => exact ⟨x, _, rfl, hb13 x List.mem_cons_self⟩
          | cons d ls => exact ⟨x, _, rfl, hb13 x List.mem_cons_self⟩
      have h13 : ∀ x ∈ a, x ≠ 13 := hc a List.mem_cons_self
      have key : ∀ a' : List UInt8, (∀ x ∈ a', x ≠ 13) → Lib.index (a' ++ (crlf ++ joinL (b :: ls)) ++ ([13, 10, 13, 10] ++ r)) [13, 10, 13, 10] = ((a' ++ (crlf ++ joinL (b :: ls))).length : Int) := by
        intro a'
        induction a' with
        | nil =>
          intro _
          show Lib.index (13 :: 10 :: (joinL (b :: ls) ++ ([13, 10, 13, 10] ++ r))) [13, 10, 13, 10] = _
          obtain ⟨ht, hx⟩ := ht
          have e1 : List.isPrefixOf [13, 10, 13, 10] (13 :: 10 :: (joinL (b :: ls) ++ ([13, 10, 13, 10] ++ r))) = false := by
            rw [ht]; simp [List.isPrefixOf, Ne.symm hx]
          unfold Lib.index
          rw [e1]
          have e2 : Lib.index (10 :: (joinL (b :: ls) ++ ([13, 10, 13, 10] ++ r))) [13, 10, 13, 10] = ((joinL (b :: ls)).length : Int) + 1 := by
            unfold Lib.index
            rw [prefix_no (by decide), hmain]
            have : (((joinL (b :: ls)).length : Int) == -1) = false := by rw [beq_eq_false_iff_ne]; omega
            simp [this]
          rw [e2]
          have : ((((joinL (b :: ls)).length : Int) + 1) == -1) = false := by rw [beq_eq_false_iff_ne]; omega
          simp [this, crlf]
        | cons y a' ih2 =>
          intro hy
          have ih2 := ih2 (fun x hx => hy x (List.mem_cons_of_mem _ hx))
          show Lib.index (y :: (a' ++ (crlf ++ joinL (b :: ls)) ++ ([13, 10, 13, 10] ++ r))) [13, 10, 13, 10] = _
          unfold Lib.index
          rw [prefix_no (hy y List.mem_cons_self), ih2]
          have : (((a' ++ (crlf ++ joinL (b :: ls))).length : Int) == -1) = false := by rw [beq_eq_false_iff_ne]; omega
          simp only [this, Bool.false_eq_true, if_false, List.cons_append, List.length_cons]
          omega
      exact key a h13
/-- The lines come back. -/
theorem split_lines : ∀ (ls : List (List UInt8)), ls ≠ [] → (∀ l ∈ ls, ∀ b ∈ l, b ≠ 13) → Lib.countB (mk (joinL ls)) ⟨#[13, 10]⟩ + 1 = ls.length ∧ Lib.splitB ⟨#[13, 10]⟩ 0 (Lib.countB (mk (joinL ls)) ⟨#[13, 10]⟩) (mk (joinL ls)) = ls.map mk := by
  intro ls
  induction ls with
  | nil => intro h; exact absurd rfl h
  | cons a ls ih =>
    intro _ hc
    cases ls with
    | nil =>
      have hi : Lib.indexB (mk a) ⟨#[13, 10]⟩ = -1 := by
        show Lib.index (U (mk a)) crlf = -1
        rw [U_mk]; exact index_last a (hc a List.mem_cons_self)
      have hc0 : Lib.countB (mk (joinL [a])) ⟨#[13, 10]⟩ = 0 := Lib.countB_miss _ _ hi
      rw [hc0]
      exact ⟨rfl, rfl⟩
    | cons b ls =>
      obtain ⟨ih1, ih2⟩ := ih (by simp) (fun l hl => hc l (List.mem_cons_of_mem _ hl))
      have e : joinL (a :: b :: ls) = a ++ (crlf ++ joinL (b :: ls)) := rfl
      have hi : Lib.indexB (mk (joinL (a :: b :: ls))) ⟨#[13, 10]⟩ = (a.length : Int) := by
        show Lib.index (U (mk _)) crlf = _
        rw [U_mk, e]; exact index_line a _ (hc a List.mem_cons_self)
      have hx : (mk (joinL (a :: b :: ls))).extract (a.length + (⟨#[13, 10]⟩ : ByteArray).size) (mk (joinL (a :: b :: ls))).size = mk (joinL (b :: ls)) := by
        apply U_inj
        rw [U_extract_end, U_mk, U_mk, e]
        show List.drop (a.length + 2) _ = _
        rw [show a ++ (crlf ++ joinL (b :: ls)) = (a ++ crlf) ++ joinL (b :: ls) by simp, List.drop_append_of_le_length (by simp [crlf]), List.drop_of_length_le (by simp [crlf]), List.nil_append]
      have hcnt := Lib.countB_hit (mk (joinL (a :: b :: ls))) ⟨#[13, 10]⟩ a.length (by decide) hi
      rw [hx] at hcnt
      rw [hcnt, show 1 + Lib.countB (mk (joinL (b :: ls))) ⟨#[13, 10]⟩ = Lib.countB (mk (joinL (b :: ls))) ⟨#[13, 10]⟩ + 1 by omega]
      refine ⟨by rw [ih1]; rfl, ?_⟩
      unfold Lib.splitB
      rw [hi, if_neg (by simp)]
      simp only [Int.toNat_natCast, Nat.add_zero]
      rw [hx, ih2]
      simp only [List.map_cons, List.cons.injEq, and_true]
      apply U_inj
      rw [U_extract, U_mk, U_mk, e, List.drop_zero, List.take_left]
theorem joinL_map_mk (ls : List (List UInt8)) : (ls.map mk).map U = ls := by simp [Function.comp_def]
end Go.Proofs.YtdlfdmbaejhaaaaDoor.Q
