/- FieldSafe answers true. Conditions: what goes in has at most 1048576 bytes in all. -/
import Derived.Test.YtdlfdmbaejhaaaaDoorQ4
import Derived.Test.YtdlfdmbaejhaaaaDoorPStdS
import Derived.Test.YtdlfdmbaejhaaaaDoorCkText
import Derived.Test.YtdlfdmbaejhaaaaDoorItoa
import Derived.Test.YtdlfdmbaejhaaaaDoorIs
set_option linter.unusedVariables false
set_option linter.unusedSimpArgs false
namespace Go.Proofs.YtdlfdmbaejhaaaaDoor.Q
open Go.RowKit Go.Proofs.YtdlfdmbaejhaaaaDoorW.PrintWords Go.Proofs.YtdlfdmbaejhaaaaDoorW.PrintLast Go.Proofs.YtdlfdmbaejhaaaaDoorW.PrintMore
/-- Has the byte c one of these flags? -/
def has (k c : Int) : Bool := bits .and .u8 (kindsL.getD c.toNat 0) k != 0
theorem is_some (c k : Int) (h0 : 0 ≤ c) (h1 : c ≤ 255) : field_is.f c k = some (has k c) := by
  unfold field_is.f has; rw [if_pos ⟨h0, by omega⟩]
theorem is_bt (s : ByteArray) (i : Int) (k : Int) : field_is.f (bt s i) k = some (has k (bt s i)) := is_some _ _ (bt_range s i).1 (bt_range s i).2
theorem field_all.ev (s : ByteArray) (a : Int) (hs : s.size ≤ 140737488351232) : Ev (fun k => field_all.f k s a) ((bytesOf s).all (has a)) := by
  have hl := bytesOf_length s
  have H : ∀ (d i : Nat), i + d = s.size → Ev (fun k => field_all.l0 k s a (s.size : Int) (i : Int)) (((bytesOf s).drop i).all (has a)) := by
    intro d
    induction d with
    | zero =>
      intro i hi
      refine Ev.step (f := fun _ => some true) (fun k => by rw [field_all.l0, if_neg (by omega)]) ?_
      rw [List.drop_eq_nil_of_le (by omega)]
      exact Ev.now _
    | succ d ih =>
      intro i hi
      refine Ev.step (fun k => rfl) ?_
      simp only [field_all.l0, is_bt, Option.bind_some, wrapN i (by omega)]
      refine Ev.if_pos (by omega) (Ev.if_pos (by omega) (Ev.if_pos (by omega) ?_))
      rw [drop_cons (bytesOf s) i 0 (by omega), List.all_cons, ← bt_nat]
      cases has a (bt s (i : Int))
      · exact Ev.if_neg (by simp) (Ev.now _)
      · exact Ev.if_pos rfl (ih (i + 1) (by omega))
  simpa [field_all.f] using H s.size 0 (by omega)
def tokL (l : List Int) : Bool := !l.isEmpty && l.all (has 1)
def cookL (l : List Int) : Bool := l.all (has 2)
theorem Token.ev (s : ByteArray) (hs : s.size ≤ 140737488351232) : Ev (fun k => field_Token.f k s) (tokL (bytesOf s)) := by
  simp only [field_Token.f]
  unfold tokL
  by_cases hn : s.toList = []
  · rw [toList_nil.1 hn]
    exact Ev.if_pos hn (Ev.now _)
  · have : (bytesOf s).isEmpty = false := by simpa using fun h => hn (toList_nil.2 h)
    rw [this]
    refine Ev.if_neg hn ?_
    simpa using (field_all.ev s 1 hs).bind (f := fun _ t => some t) (Ev.now _)
theorem may.ev (a b : ByteArray) (ha : a.size ≤ 140737488351232) (hb : b.size ≤ 140737488351232) : Ev (fun k => field_may.f k a b) (tokL (bytesOf a) && cookL (bytesOf b)) := by
  simp only [field_may.f]
  refine (Token.ev a ha).bind ?_
  cases h : tokL (bytesOf a)
  · exact Ev.if_neg (by simp) (Ev.now _)
  · refine Ev.if_pos rfl ?_
    refine (field_all.ev b 2 hb).bind ?_
    exact Ev.now _
/-- A field's value, not empty. -/
structure Val (l : List Int) : Prop where
  all : ∀ c ∈ l, has 4 c = true
  ne : l ≠ []
  fst : has 8 (l.headD 0) = false
  lst : has 8 (l.getLastD 0) = false
theorem Value.ev (s : ByteArray) (hs : s.size ≤ 140737488351232) (hv : Val (bytesOf s)) : Ev (fun k => field_Value.f k s) true := by
  have hl := bytesOf_length s
  have hp : 0 < s.size := by have := List.length_pos_iff.2 hv.ne; omega
  simp only [field_Value.f]
  refine Ev.if_neg (fun h => hv.ne (toList_nil.1 h)) ((field_all.ev s 4 hs).bind ?_)
  rw [List.all_eq_true.2 hv.all]
  refine Ev.if_pos rfl ?_
  have e0 : bt s 0 = (bytesOf s).headD 0 := by rw [bt_eq]; cases bytesOf s <;> rfl
  have e1 : bt s (wrap64 ((s.size : Int) - 1)) = (bytesOf s).getLastD 0 := by
    rw [wrapZ (x := (s.size : Int) - 1) (y := ((s.size - 1 : Nat) : Int)) (by omega) (by omega), bt_nat, List.getLastD_eq_getLast?, List.getLast?_eq_getElem?, List.getD_eq_getElem?_getD, hl]
  have f0 : field_is.f (bt s 0) 8 = some false := by rw [is_bt, e0, hv.fst]
  have f1 : field_is.f (bt s (wrap64 ((s.size : Int) - 1))) 8 = some false := by rw [is_bt, e1, hv.lst]
  simp only [f0, f1, Option.bind_some]
  refine Ev.if_pos (by omega) (Ev.if_neg (by simp) ?_)
  clear f0 f1 e0 e1
  rw [wrapZ (x := (s.size : Int) - 1) (y := ((s.size - 1 : Nat) : Int)) (by omega) (by omega)]
  refine Ev.if_pos (by omega) (Ev.if_pos (by omega) ?_)
  exact Ev.now _
theorem semi.ev (s : ByteArray) (hs : s.size ≤ 1099511627776) : Ev (fun k => usherlaw6_semicolons.f k s) (((bytesOf s).count 59 : Nat) : Int) := by
  have hl := bytesOf_length s
  have H : ∀ (d i a : Nat), i + d = s.size → a ≤ i → Ev (fun k => usherlaw6_semicolons.l0 k s (a : Int) (i : Int)) ((a + ((bytesOf s).drop i).count 59 : Nat) : Int) := by
    intro d
    induction d with
    | zero =>
      intro i a hi _
      refine Ev.step (f := fun _ => some (a : Int)) (fun k => by rw [usherlaw6_semicolons.l0, if_neg (by omega)]) ?_
      rw [List.drop_eq_nil_of_le (by omega)]
      exact Ev.now _
    | succ d ih =>
      intro i a hi ha
      have hd : (bytesOf s).drop i = bt s (i : Int) :: (bytesOf s).drop (i + 1) := by rw [bt_nat]; exact drop_cons _ i 0 (by omega)
      rw [hd]
      refine Ev.step (fun k => rfl) ?_
      simp only [usherlaw6_semicolons.l0, wrapN i (by omega), wrapN a (by omega)]
      refine Ev.if_pos (by omega) (Ev.if_pos (by omega) ?_)
      generalize bt s (i : Int) = c at *
      by_cases h : c = 59
      · refine Ev.if_pos h (Ev.eq (ih (i + 1) (a + 1) (by omega) (by omega)) ?_)
        rw [h, List.count_cons_self]; omega
      · refine Ev.if_neg h (Ev.eq (ih (i + 1) a (by omega) (by omega)) ?_)
        rw [List.count_cons_of_ne h]
  have := H s.size 0 0 (by omega) (by omega)
  simp only [Nat.zero_add, List.drop_zero] at this
  simp only [usherlaw6_semicolons.f]
  exact this
/-! ### bytes -/
theorem tok_at : ∀ c : Fin 256, has 1 (c.val : Int) = true → has 4 (c.val : Int) = true ∧ has 8 (c.val : Int) = false ∧ (c.val : Int) ≠ 59 := by decide +kernel
theorem cook_at : ∀ c : Fin 256, has 2 (c.val : Int) = true → has 4 (c.val : Int) = true ∧ has 8 (c.val : Int) = false ∧ (c.val : Int) ≠ 59 := by decide +kernel
theorem tok_of {c : Int} (h : 0 ≤ c ∧ c ≤ 255) (ht : has 1 c = true) : has 4 c = true ∧ has 8 c = false ∧ c ≠ 59 := by
  have := tok_at ⟨c.toNat, by omega⟩
  simp only [Int.toNat_of_nonneg h.1] at this
  exact this ht
theorem cook_of {c : Int} (h : 0 ≤ c ∧ c ≤ 255) (ht : has 2 c = true) : has 4 c = true ∧ has 8 c = false ∧ c ≠ 59 := by
  have := cook_at ⟨c.toNat, by omega⟩
  simp only [Int.toNat_of_nonneg h.1] at this
  exact this ht
theorem lit_all (l : List Int) (h : l.all (has 4) = true) : ∀ c ∈ l, has 4 c = true := List.all_eq_true.1 h
theorem tokL_of {s : ByteArray} (h : tokL (bytesOf s) = true) : (∃ c m, bytesOf s = c :: m ∧ has 8 c = false) ∧ (∀ c ∈ bytesOf s, has 4 c = true) ∧ (bytesOf s).count 59 = 0 := by
  unfold tokL at h
  rw [Bool.and_eq_true] at h
  have h1 := List.all_eq_true.1 h.2
  refine ⟨?_, fun c hc => (tok_of (bytesOf_range hc) (h1 c hc)).1, List.count_eq_zero.2 fun hc => (tok_of (bytesOf_range hc) (h1 59 hc)).2.2 rfl⟩
  cases e : bytesOf s with
  | nil => rw [e] at h; exact absurd h.1 (by simp)
  | cons c m => exact ⟨c, m, rfl, (tok_of (bytesOf_range (s := s) (by rw [e]; simp)) (h1 c (by rw [e]; simp))).2.1⟩
theorem cookL_of {s : ByteArray} (h : cookL (bytesOf s) = true) : (∀ c ∈ bytesOf s, has 4 c = true ∧ has 8 c = false) ∧ (bytesOf s).count 59 = 0 := by
  have h1 := List.all_eq_true.1 h
  exact ⟨fun c hc => ⟨(cook_of (bytesOf_range hc) (h1 c hc)).1, (cook_of (bytesOf_range hc) (h1 c hc)).2.1⟩, List.count_eq_zero.2 fun hc => (cook_of (bytesOf_range hc) (h1 59 hc)).2.2 rfl⟩
/-! ### SetCookie -/
def pathI : List Int := [59, 32, 80, 97, 116, 104, 61, 47]
def ageI : List Int := [59, 32, 77, 97, 120, 45, 65, 103, 101, 61]
def flagI : List Int := [59, 32, 83, 101, 99, 117, 114, 101, 59, 32, 72, 116, 116, 112, 79, 110, 108, 121, 59, 32, 83, 97, 109, 101, 83, 105, 116, 101, 61, 76, 97, 120]
def decI (n : Int) : List Int := (Lib.itoa n).map fun b => (b.toNat : Int)
def setL (A B : List Int) (n : Int) : List Int := A ++ (61 :: (B ++ (pathI ++ ((if 0 ≤ n then ageI ++ decI n else []) ++ flagI))))
theorem itoa_len20 (n : Int) (h : 0 ≤ n ∧ n ≤ 9223372036854775807) : (Lib.itoa n).length ≤ 20 := by
  unfold Lib.itoa
  rw [if_neg (by omega), Lib.decDigits_length]
  have nd : ∀ (k m : Nat), m < 10 ^ (k + 1) → Lib.nDigits m ≤ k + 1 := by
    intro k
    induction k with
    | zero => intro m h; rw [Lib.nDigits_small (by simpa using h)]; omega
    | succ k ih =>
      intro m h
      by_cases hu : m < 10
      · rw [Lib.nDigits_small hu]; omega
      · rw [Lib.nDigits_big hu]
        have := ih (m / 10) (by rw [Nat.div_lt_iff_lt_mul (by omega)]; rw [Nat.pow_succ] at h; exact h)
        omega
  exact nd 19 n.toNat (by omega)
theorem SetCookie.ev (a b : ByteArray) (n : Int) (hn : -9223372036854775808 ≤ n ∧ n ≤ 9223372036854775807) (ha : a.size ≤ 1048576) (hb : b.size ≤ 1048576) :
    ∃ r : ByteArray, bytesOf r = setL (bytesOf a) (bytesOf b) n ∧ Ev (fun k => field_SetCookie.f k a b n) (if (tokL (bytesOf a) && cookL (bytesOf b)) = true then (r, none) else ((⟨#[]⟩ : ByteArray), some 2)) := by
  have z1 : (a ++ (⟨#[61]⟩ : ByteArray)).size = a.size + 1 := by rw [ByteArray.size_append]; rfl
  have z2 : ((a ++ (⟨#[61]⟩ : ByteArray)) ++ b).size = a.size + 1 + b.size := by rw [ByteArray.size_append, z1]
  have z3 : (((a ++ (⟨#[61]⟩ : ByteArray)) ++ b) ++ (⟨#[59, 32, 80, 97, 116, 104, 61, 47]⟩ : ByteArray)).size = a.size + 1 + b.size + 8 := by rw [ByteArray.size_append, z2]; rfl
  have hm := may.ev a b (by omega) (by omega)
  by_cases h0 : 0 ≤ n
  · have hi := itoa_len20 n ⟨h0, hn.2⟩
    have z4 : (⟨(Lib.itoa n).toArray⟩ : ByteArray).size = (Lib.itoa n).length := rfl
    have z5 : ((⟨#[59, 32, 77, 97, 120, 45, 65, 103, 101, 61]⟩ : ByteArray) ++ (⟨(Lib.itoa n).toArray⟩ : ByteArray)).size = 10 + (Lib.itoa n).length := by rw [ByteArray.size_append, z4]; rfl
    have z6 : ((((a ++ (⟨#[61]⟩ : ByteArray)) ++ b) ++ (⟨#[59, 32, 80, 97, 116, 104, 61, 47]⟩ : ByteArray)) ++ ((⟨#[59, 32, 77, 97, 120, 45, 65, 103, 101, 61]⟩ : ByteArray) ++ (⟨(Lib.itoa n).toArray⟩ : ByteArray))).size = a.size + 1 + b.size + 8 + (10 + (Lib.itoa n).length) := by rw [ByteArray.size_append, z3, z5]
    refine ⟨((((a ++ (⟨#[61]⟩ : ByteArray)) ++ b) ++ (⟨#[59, 32, 80, 97, 116, 104, 61, 47]⟩ : ByteArray)) ++ ((⟨#[59, 32, 77, 97, 120, 45, 65, 103, 101, 61]⟩ : ByteArray) ++ (⟨(Lib.itoa n).toArray⟩ : ByteArray))) ++ (⟨#[59, 32, 83, 101, 99, 117, 114, 101, 59, 32, 72, 116, 116, 112, 79, 110, 108, 121, 59, 32, 83, 97, 109, 101, 83, 105, 116, 101, 61, 76, 97, 120]⟩ : ByteArray), ?_, ?_⟩
    · simp only [bytesOf_append]
      unfold setL
      rw [if_pos h0, show bytesOf (⟨(Lib.itoa n).toArray⟩ : ByteArray) = decI n from bytesOf_mk _]
      simp only [List.append_assoc]
      rfl
    · simp only [field_SetCookie.f]
      refine hm.bind ?_
      cases hv : (tokL (bytesOf a) && cookL (bytesOf b)) with
      | false => exact Ev.if_neg (by simp) (Ev.now _)
      | true =>
        have hI : strconv_Itoa_39.f n = some (⟨(Lib.itoa n).toArray⟩ : ByteArray) := by unfold strconv_Itoa_39.f; rw [if_pos hn]
        simp only [hI, Option.bind_some]
        exact Ev.if_pos (by simp) (Ev.if_pos (by omega) (Ev.if_pos (by omega) (Ev.if_pos (by omega) (Ev.if_pos h0 (Ev.if_pos (by omega) (Ev.if_pos (by omega) (Ev.if_pos (by omega) (Ev.now _))))))))
  · refine ⟨(((a ++ (⟨#[61]⟩ : ByteArray)) ++ b) ++ (⟨#[59, 32, 80, 97, 116, 104, 61, 47]⟩ : ByteArray)) ++ (⟨#[59, 32, 83, 101, 99, 117, 114, 101, 59, 32, 72, 116, 116, 112, 79, 110, 108, 121, 59, 32, 83, 97, 109, 101, 83, 105, 116, 101, 61, 76, 97, 120]⟩ : ByteArray), ?_, ?_⟩
    · simp only [bytesOf_append]
      unfold setL
      rw [if_neg h0]
      simp only [List.append_assoc, List.nil_append]
      rfl
    · simp only [field_SetCookie.f]
      refine hm.bind ?_
      cases hv : (tokL (bytesOf a) && cookL (bytesOf b)) with
      | false => exact Ev.if_neg (by simp) (Ev.now _)
      | true => exact Ev.if_pos rfl (Ev.if_pos (by omega) (Ev.if_pos (by omega) (Ev.if_pos (by omega) (Ev.if_neg h0 (Ev.if_pos (by omega) (Ev.now _))))))
theorem dec_bytes (n : Int) (h : 0 ≤ n) : ∀ c ∈ decI n, 48 ≤ c ∧ c ≤ 57 := by
  intro c hc
  unfold decI at hc
  obtain ⟨b, hb, rfl⟩ := List.mem_map.1 hc
  unfold Lib.itoa at hb
  rw [if_neg (by omega)] at hb
  have : ∀ u : Nat, ∀ b ∈ Lib.decDigits u, 48 ≤ b.toNat ∧ b.toNat ≤ 57 := by
    intro u
    induction u using Nat.strongRecOn with
    | _ u ih =>
      intro b hb
      rw [Lib.decDigits] at hb
      split at hb
      · rw [List.mem_singleton] at hb
        subst hb
        rename_i hu
        rw [UInt8.toNat_ofNat']; omega
      · rename_i hu
        rcases List.mem_append.1 hb with hb | hb
        · exact ih (u / 10) (by omega) b hb
        · rw [List.mem_singleton] at hb
          subst hb
          have := Nat.mod_lt u (show 10 > 0 by omega)
          rw [UInt8.toNat_ofNat']; omega
  have := this _ b hb
  omega
theorem dig_at : ∀ c : Fin 10, has 4 (48 + (c.val : Int)) = true := by decide +kernel
theorem dig_of {c : Int} (h : 48 ≤ c ∧ c ≤ 57) : has 4 c = true := by
  have := dig_at ⟨(c - 48).toNat, by omega⟩
  simp only [Int.toNat_of_nonneg (show 0 ≤ c - 48 by omega)] at this
  rwa [show 48 + (c - 48) = c by omega] at this
theorem setL_val {a b : ByteArray} (ha : tokL (bytesOf a) = true) (hb : cookL (bytesOf b) = true) (n : Int) : Val (setL (bytesOf a) (bytesOf b) n) ∧ (setL (bytesOf a) (bytesOf b) n).count 59 = if 0 ≤ n then 5 else 4 := by
  obtain ⟨⟨c, m, hc, h8⟩, hA, h59⟩ := tokL_of ha
  obtain ⟨hB, hB59⟩ := cookL_of hb
  have l1 := lit_all pathI (by decide +kernel)
  have l2 := lit_all ageI (by decide +kernel)
  have l3 := lit_all flagI (by decide +kernel)
  refine ⟨⟨?_, by unfold setL; simp, by unfold setL; rw [hc]; exact h8, ?_⟩, ?_⟩
  · intro x hx
    unfold setL at hx
    rcases List.mem_append.1 hx with hx | hx
    · exact hA x hx
    · rcases List.mem_cons.1 hx with rfl | hx
      · decide +kernel
      · rcases List.mem_append.1 hx with hx | hx
        · exact (hB x hx).1
        · rcases List.mem_append.1 hx with hx | hx
          · exact l1 x hx
          · rcases List.mem_append.1 hx with hx | hx
            · split at hx
              · rename_i h0
                rcases List.mem_append.1 hx with hx | hx
                · exact l2 x hx
                · exact dig_of (dec_bytes n h0 x hx)
              · cases hx
            · exact l3 x hx
  · have e : setL (bytesOf a) (bytesOf b) n = (bytesOf a ++ (61 :: (bytesOf b ++ (pathI ++ ((if 0 ≤ n then ageI ++ decI n else []) ++ flagI.dropLast))))) ++ [120] := by
      unfold setL
      simp only [List.append_assoc, List.cons_append]
      rfl
    rw [e, List.getLastD_concat]
    decide +kernel
  · unfold setL
    simp only [List.count_append, List.count_cons, h59, hB59]
    have p1 : pathI.count 59 = 1 := by decide
    have p2 : ageI.count 59 = 1 := by decide
    have p3 : flagI.count 59 = 3 := by decide
    by_cases h0 : 0 ≤ n
    · have hd : (decI n).count 59 = 0 := List.count_eq_zero.2 fun h => by have := dec_bytes n h0 59 h; omega
      rw [if_pos h0, if_pos h0, List.count_append, p1, p2, p3, hd]; rfl
    · rw [if_neg h0, if_neg h0, p1, p3]; rfl
/-! ### CookieText -/
def mayC (p : S26) : Bool := tokL (bytesOf p.f0) && cookL (bytesOf p.f1)
def bulkC (l : List S26) : Nat := (l.map fun p => p.f0.size + p.f1.size).sum
theorem mays.ev : ∀ l : List S26, (∀ p ∈ l, p.f0.size ≤ 140737488351232 ∧ p.f1.size ≤ 140737488351232) → Ev (fun k => maysF k l) (l.map mayC) := by
  intro l
  induction l with
  | nil => intro _; exact Ev.now _
  | cons p l ih =>
    intro h
    have hp := h p List.mem_cons_self
    have := ih (fun q hq => h q (List.mem_cons_of_mem _ hq))
    refine Ev.congr (f := fun k => (field_may.f k p.f0 p.f1).bind fun b => (maysF k l).bind fun bs => some (b :: bs)) (fun k => by unfold maysF; rw [List.mapM_cons]; rfl) ?_
    exact (may.ev p.f0 p.f1 hp.1 hp.2).bind (this.bind (Ev.now _))
theorem piece_eq (p : S26) : pieceL p = bytesOf p.f0 ++ (61 :: bytesOf p.f1) := by
  unfold pieceL
  rw [bytesOf_append, bytesOf_append, List.append_assoc]; rfl
theorem textTo_facts (l : List S26) (hm : ∀ p ∈ l, mayC p = true) : ∀ i, i ≤ l.length → (textTo l i).length ≤ bulkC (l.take i) + 3 * i ∧ (∀ c ∈ textTo l i, has 4 c = true) ∧ (textTo l i).count 59 = i - 1 ∧ (0 < i → textTo l i ≠ [] ∧ has 8 ((textTo l i).headD 0) = false ∧ has 8 ((textTo l i).getLastD 0) = false) := by
  intro i
  induction i with
  | zero => intro _; exact ⟨by simp [textTo], by simp [textTo], by simp [textTo], fun h => absurd h (by omega)⟩
  | succ i ih =>
    intro hi
    obtain ⟨i1, i2, i3, i4⟩ := ih (by omega)
    have hlt : i < l.length := by omega
    have hg : l.getD i z26 = l[i] := by rw [List.getD_eq_getElem?_getD, List.getElem?_eq_getElem hlt]; rfl
    have hp := hm l[i] (List.getElem_mem hlt)
    unfold mayC at hp
    rw [Bool.and_eq_true] at hp
    obtain ⟨⟨c, m, hc, h8⟩, hA, h59⟩ := tokL_of hp.1
    obtain ⟨hB, hB59⟩ := cookL_of hp.2
    have hbk : bulkC (l.take (i + 1)) = bulkC (l.take i) + (l[i].f0.size + l[i].f1.size) := by
      unfold bulkC
      rw [List.take_succ_eq_append_getElem hlt, List.map_append, List.sum_append]; simp
    rw [textTo_succ, hg, piece_eq, hbk]
    refine ⟨?_, ?_, ?_, fun _ => ⟨?_, ?_, ?_⟩⟩
    · have := bytesOf_length l[i].f0
      have := bytesOf_length l[i].f1
      simp only [List.length_append, List.length_cons]
      split <;> simp only [List.length_cons, List.length_nil] <;> omega
    · intro x hx
      rcases List.mem_append.1 hx with hx | hx
      · exact i2 x hx
      · rcases List.mem_append.1 hx with hx | hx
        · split at hx
          · simp only [List.mem_cons, List.not_mem_nil, or_false] at hx
            rcases hx with rfl | rfl <;> decide +kernel
          · cases hx
        · rcases List.mem_append.1 hx with hx | hx
          · exact hA x hx
          · rcases List.mem_cons.1 hx with rfl | hx
            · decide +kernel
            · exact (hB x hx).1
    · simp only [List.count_append, List.count_cons, h59, hB59, i3]
      by_cases h0 : 0 < i
      · rw [if_pos h0, show ([59, 32] : List Int).count 59 = 1 by decide, show ((61 : Int) == 59) = false by decide]
        simp only [Bool.false_eq_true, if_false]; omega
      · rw [if_neg h0, show ((61 : Int) == 59) = false by decide]
        simp only [Bool.false_eq_true, if_false, List.count_nil]; omega
    · simp
    · by_cases h0 : 0 < i
      · obtain ⟨j1, j2, _⟩ := i4 h0
        cases e : textTo l i with
        | nil => exact absurd e j1
        | cons x r => rw [e] at j2; exact j2
      · have : i = 0 := by omega
        subst this
        rw [if_neg (by omega), hc]
        exact h8
    · have e : ∀ (X : List Int), (X ++ (61 :: bytesOf l[i].f1)).getLastD 0 = (61 :: bytesOf l[i].f1).getLastD 0 := by
        intro X
        rw [List.getLastD_eq_getLast?, List.getLastD_eq_getLast?, List.getLast?_append, List.getLast?_eq_some_getLast (l := 61 :: bytesOf l[i].f1) (by simp)]; rfl
      rw [← List.append_assoc, ← List.append_assoc, e]
      cases ev : bytesOf l[i].f1 with
      | nil => decide +kernel
      | cons y r =>
        have : (61 :: y :: r).getLastD 0 = (y :: r).getLastD 0 := rfl
        rw [this]
        refine (hB _ ?_).2
        rw [ev, List.getLastD_eq_getLast?]
        have := List.getLast?_eq_some_getLast (l := y :: r) (by simp)
        rw [this]
        exact List.getLast_mem (by simp)
/-! ### BasicOf -/
theorem std_at : ∀ v : Fin 64, has 4 (bt stdU (v.val : Int)) = true ∧ has 8 (bt stdU (v.val : Int)) = false := by decide +kernel
theorem std_of {v : Int} (h : 0 ≤ v ∧ v < 64) : has 4 (bt stdU v) = true ∧ has 8 (bt stdU v) = false := by
  have := std_at ⟨v.toNat, by omega⟩
  simpa only [Int.toNat_of_nonneg h.1] using this
theorem enc_val : ∀ (n : Nat) (l : List Int), l.length ≤ n → (∀ x ∈ l, 0 ≤ x ∧ x ≤ 255) → ∀ c ∈ encL stdU l, has 4 c = true ∧ has 8 c = false := by
  intro n
  induction n with
  | zero => intro l h _ c hc; cases l with
    | nil => simp [encL] at hc
    | cons a l => simp at h
  | succ n ih =>
    intro l h hr c hc
    match l, h, hr with
    | [], _, _ => simp [encL] at hc
    | [a], _, hr =>
      have ha := hr a (by simp)
      simp only [encL, List.mem_cons, List.not_mem_nil, or_false] at hc
      rcases hc with rfl | rfl <;> exact std_of (by omega)
    | [a, b], _, hr =>
      have ha := hr a (by simp)
      have hb := hr b (by simp)
      simp only [encL, List.mem_cons, List.not_mem_nil, or_false] at hc
      rcases hc with rfl | rfl | rfl <;> exact std_of (by omega)
    | a :: b :: d :: r, h, hr =>
      have ha := hr a (by simp)
      have hb := hr b (by simp)
      have hd := hr d (by simp)
      simp only [encL, List.mem_cons] at hc
      rcases hc with rfl | rfl | rfl | rfl | hc
      · exact std_of (by omega)
      · exact std_of (by omega)
      · exact std_of (by omega)
      · exact std_of (by omega)
      · exact ih r (by simp only [List.length_cons] at h; omega) (fun x hx => hr x (by simp [hx])) c hc
theorem std_val (p : ByteArray) : ∀ c ∈ bytesOf (stdS p), has 4 c = true ∧ has 8 c = false := by
  have hE : ∀ c ∈ bytesOf (strOfNums (encL stdU (bytesOf p))), has 4 c = true ∧ has 8 c = false := by
    rw [bytesOf_strOfNums (encL_range stdU _ _ (Nat.le_refl _))]
    exact enc_val _ _ (Nat.le_refl _) (fun x hx => bytesOf_range hx)
  have h61 : has 4 61 = true ∧ has 8 61 = false := by decide +kernel
  intro c hc
  unfold stdS at hc
  split at hc
  · rw [bytesOf_append] at hc
    rcases List.mem_append.1 hc with hc | hc
    · exact hE c hc
    · have e : bytesOf (⟨#[61, 61]⟩ : ByteArray) = [61, 61] := rfl
      rw [e] at hc
      simp only [List.mem_cons, List.not_mem_nil, or_false] at hc
      rcases hc with rfl | rfl <;> exact h61
  · split at hc
    · rw [bytesOf_append] at hc
      rcases List.mem_append.1 hc with hc | hc
      · exact hE c hc
      · have e : bytesOf (⟨#[61]⟩ : ByteArray) = [61] := rfl
        rw [e] at hc
        simp only [List.mem_cons, List.not_mem_nil, or_false] at hc
        subst hc; exact h61
    · exact hE c hc
theorem enc_ne (al : ByteArray) : ∀ l : List Int, l ≠ [] → encL al l ≠ []
  | [], h => absurd rfl h
  | [a], _ => by simp [encL]
  | [a, b], _ => by simp [encL]
  | a :: b :: c :: r, _ => by simp [encL]
theorem std_ne (p : ByteArray) (h : bytesOf p ≠ []) : bytesOf (stdS p) ≠ [] := by
  have hE : bytesOf (strOfNums (encL stdU (bytesOf p))) ≠ [] := by
    rw [bytesOf_strOfNums (encL_range stdU _ _ (Nat.le_refl _))]
    exact enc_ne _ _ h
  unfold stdS
  split
  · rw [bytesOf_append]; simp [hE]
  · split
    · rw [bytesOf_append]; simp [hE]
    · exact hE
theorem FieldSafe_pure (l : List S26) (a b : ByteArray) (n : Int) (u p : ByteArray)
    (hl : l.length * 32 ≤ 140737488351232 ∧ ∀ x ∈ l, x.f0.size ≤ 140737488351232 ∧ x.f1.size ≤ 140737488351232) (_ : a.size ≤ 140737488351232) (_ : b.size ≤ 140737488351232) (hn : (Lit.int .i64 n).wf = true) (_ : u.size ≤ 140737488351232) (_ : p.size ≤ 140737488351232)
    (hbk : bulkC l + ((a.size + (b.size + 0)) + (u.size + p.size)) ≤ 1048576) : ∃ k, usherlaw6_FieldSafe.f k l a b n u p = some true := by
  refine Ev.rounds (g := fun k => usherlaw6_FieldSafe.f k l a b n u p) ?_
  have hn : -9223372036854775808 ≤ n ∧ n ≤ 9223372036854775807 := by
    have hmin : IntKind.i64.min = -9223372036854775808 := rfl
    have hmax : IntKind.i64.max = 9223372036854775807 := rfl
    simp only [Lit.wf, Bool.and_eq_true, decide_eq_true_eq] at hn
    omega
  have hj3 : Ev (fun k => usherlaw6_FieldSafe.j3 k false l a b n u p) true := by
    have hu := escS_size u
    have hp := escS_size p
    have hA := Escape.ev u (by omega)
    have hB := Escape.ev p (by omega)
    generalize strOfNums (escS (bytesOf u)) = x at *
    generalize strOfNums (escS (bytesOf p)) = y at *
    have z1 : (x ++ (⟨#[58]⟩ : ByteArray)).size = x.size + 1 := by rw [ByteArray.size_append]; rfl
    have z2 : ((x ++ (⟨#[58]⟩ : ByteArray)) ++ y).size = x.size + 1 + y.size := by rw [ByteArray.size_append, z1]
    have hS := Std.ev ((x ++ (⟨#[58]⟩ : ByteArray)) ++ y) (by omega)
    have hsz := stdS_size ((x ++ (⟨#[58]⟩ : ByteArray)) ++ y)
    have hval := std_val ((x ++ (⟨#[58]⟩ : ByteArray)) ++ y)
    have ht := std_ne ((x ++ (⟨#[58]⟩ : ByteArray)) ++ y) (by rw [bytesOf_append, bytesOf_append, show bytesOf (⟨#[58]⟩ : ByteArray) = [58] from rfl]; simp)
    generalize stdS ((x ++ (⟨#[58]⟩ : ByteArray)) ++ y) = t at *
    have h1 : Ev (fun k => field_BasicOf.f k u p) ((⟨#[66, 97, 115, 105, 99, 32]⟩ : ByteArray) ++ t) := by
      simp only [field_BasicOf.f]
      refine hA.bind (Ev.if_pos (by omega) (hB.bind (Ev.if_pos (by omega) (hS.bind (Ev.if_pos (by omega) (Ev.now _))))))
    have z3 : ((⟨#[66, 97, 115, 105, 99, 32]⟩ : ByteArray) ++ t).size = 6 + t.size := by rw [ByteArray.size_append]; rfl
    have hbt : bytesOf ((⟨#[66, 97, 115, 105, 99, 32]⟩ : ByteArray) ++ t) = [66, 97, 115, 105, 99, 32] ++ bytesOf t := by rw [bytesOf_append]; rfl
    · have hv : Val (bytesOf ((⟨#[66, 97, 115, 105, 99, 32]⟩ : ByteArray) ++ t)) := by
        rw [hbt]
        refine ⟨?_, by simp, (show has 8 66 = false by decide +kernel), ?_⟩
        · intro c hc
          rcases List.mem_append.1 hc with hc | hc
          · exact lit_all [66, 97, 115, 105, 99, 32] (by decide +kernel) c hc
          · exact (hval c hc).1
        · rw [List.getLastD_eq_getLast?, List.getLast?_append, List.getLast?_eq_some_getLast ht]
          exact (hval _ (List.getLast_mem ht)).2
      refine Ev.step (fun k => rfl) ?_
      simp only [usherlaw6_FieldSafe.j3]
      refine Ev.if_neg (by simp) (h1.bind ((Value.ev _ (by omega) hv).bind ?_))
      refine Ev.if_pos rfl (Ev.if_pos (by omega) (Ev.if_pos (by decide) (Ev.if_pos (by omega) ?_)))
      have e : ((⟨#[66, 97, 115, 105, 99, 32]⟩ : ByteArray) ++ t).extract 0 6 = (⟨#[66, 97, 115, 105, 99, 32]⟩ : ByteArray) := by
        refine ext_bytes ?_
        rw [bytesOf_extract, hbt]; rfl
      rw [e]
      refine Ev.eq (Ev.now _) ?_
      rw [beq_iff_eq]
      exact (toList_lit _ _).2 rfl
  have hj2 : Ev (fun k => usherlaw6_FieldSafe.j2 k false l a b n u p) true := by
    have hlm : ∀ x ∈ l, x.f0.size ≤ 140737488351232 ∧ x.f1.size ≤ 140737488351232 := hl.2
    refine Ev.step (fun k => rfl) ?_
    simp only [usherlaw6_FieldSafe.j2]
    refine Ev.if_neg (by simp) ?_
    have hC : Ev (fun k => field_CookieText.f k l) (if 16 < l.length then ((⟨#[]⟩ : ByteArray), some 3) else if l.all mayC = true then (strOfNums (textTo l l.length), none) else ((⟨#[]⟩ : ByteArray), some 2)) := by
      simp only [field_CookieText.f]
      by_cases h16 : 16 < l.length
      · rw [if_pos h16]
        exact Ev.if_pos h16 (Ev.now _)
      · rw [if_neg h16]
        have hlen : ∀ i, i ≤ l.length → (textTo l i).length ≤ bulkC (l.take i) + 3 * i := by
          intro i
          induction i with
          | zero => intro _; simp [textTo]
          | succ i ih =>
            intro hi
            have h1 := ih (by omega)
            have hlt : i < l.length := by omega
            have hg : l.getD i z26 = l[i] := by rw [List.getD_eq_getElem?_getD, List.getElem?_eq_getElem hlt]; rfl
            have hbk : bulkC (l.take (i + 1)) = bulkC (l.take i) + (l[i].f0.size + l[i].f1.size) := by
              unfold bulkC
              rw [List.take_succ_eq_append_getElem hlt, List.map_append, List.sum_append]; simp
            rw [textTo_succ, hg, piece_eq, hbk]
            have := bytesOf_length l[i].f0
            have := bytesOf_length l[i].f1
            simp only [List.length_append, List.length_cons]
            split <;> simp only [List.length_cons, List.length_nil] <;> omega
        have hlen2 := hlen l.length (Nat.le_refl _)
        rw [List.take_length] at hlen2
        refine Ev.if_neg h16 (Ev.if_pos (by omega) ((mays.ev l hlm).bind ?_))
        have e : (l.map mayC).all id = l.all mayC := by rw [List.all_map]; rfl
        rw [e]
        cases h : l.all mayC
        · exact Ev.if_neg (by simp) (Ev.now _)
        · exact Ev.if_pos rfl (Ev.now _)
    refine hC.bind ?_
    by_cases h16 : 16 < l.length
    · rw [if_pos h16]
      exact Ev.if_neg (by simp) hj3
    · rw [if_neg h16]
      cases hall : l.all mayC with
      | false =>
        rw [if_neg (by simp)]
        exact Ev.if_neg (by simp) hj3
      | true =>
        rw [if_pos rfl]
        refine Ev.if_pos rfl ?_
        by_cases h0 : 0 < l.length
        · obtain ⟨f1, f2, f3, f4⟩ := textTo_facts l (List.all_eq_true.1 hall) l.length (Nat.le_refl _)
          obtain ⟨g1, g2, g3⟩ := f4 h0
          rw [List.take_length] at f1
          have hb : bytesOf (strOfNums (textTo l l.length)) = textTo l l.length := bytesOf_strOfNums (textTo_range l l.length)
          have hsz : (strOfNums (textTo l l.length)).size = (textTo l l.length).length := by rw [size_eq, hb]
          have hV := Value.ev (strOfNums (textTo l l.length)) (by omega) (by rw [hb]; exact ⟨f2, g1, g2, g3⟩)
          have hS := semi.ev (strOfNums (textTo l l.length)) (by omega)
          rw [hb, f3] at hS
          refine Ev.if_pos (by omega) (hV.bind (Ev.if_pos rfl (hS.bind ?_)))
          have e : (((l.length - 1 : Nat) : Int) != wrap64 ((l.length : Int) - 1)) = false := by
            rw [wrapZ (x := (l.length : Int) - 1) (y := ((l.length - 1 : Nat) : Int)) (by omega) (by omega)]; simp
          rw [e]
          exact hj3
        · exact Ev.if_neg (by omega) hj3
  have hj1 : ∀ (r : ByteArray) (q : Int), q = (if 0 ≤ n then 5 else 4) → bytesOf r = setL (bytesOf a) (bytesOf b) n → Ev (fun k => usherlaw6_FieldSafe.j1 k (if (tokL (bytesOf a) && cookL (bytesOf b)) = true then (r, (none : Option Int)) else ((⟨#[]⟩ : ByteArray), some 2)).1 (if (tokL (bytesOf a) && cookL (bytesOf b)) = true then (r, (none : Option Int)) else ((⟨#[]⟩ : ByteArray), some 2)).2 q l a b n u p) true := by
    intro r q hq hr
    refine Ev.step (fun k => rfl) ?_
    simp only [usherlaw6_FieldSafe.j1]
    cases hm : (tokL (bytesOf a) && cookL (bytesOf b)) with
    | false => exact Ev.if_neg (by simp) hj2
    | true =>
      rw [Bool.and_eq_true] at hm
      obtain ⟨hV, hS⟩ := setL_val hm.1 hm.2 n
      have hla := bytesOf_length a
      have hlb := bytesOf_length b
      have hrs : r.size ≤ 1099511627776 := by
        rw [size_eq, hr]
        unfold setL
        simp only [List.length_append, List.length_cons]
        have p1 : pathI.length = 8 := rfl
        have p2 : ageI.length = 10 := rfl
        have p3 : flagI.length = 32 := rfl
        by_cases h0 : 0 ≤ n
        · have := itoa_len20 n ⟨h0, hn.2⟩
          rw [if_pos h0, List.length_append, show (decI n).length = (Lib.itoa n).length by simp [decI]]
          omega
        · rw [if_neg h0, List.length_nil]; omega
      rw [← hr] at hV hS
      have hVe := Value.ev r (by omega) hV
      have hSe := semi.ev r hrs
      rw [hS] at hSe
      refine Ev.if_pos rfl (hVe.bind (Ev.if_pos rfl (hSe.bind ?_)))
      have e : (((if 0 ≤ n then 5 else 4 : Nat) : Int) != q) = false := by
        rw [hq]
        split <;> rfl
      rw [e]
      exact hj2
  have hj0 : Ev (fun k => usherlaw6_FieldSafe.j0 k false l a b n u p) true := by
    obtain ⟨r, hr, hE⟩ := SetCookie.ev a b n hn (by omega) (by omega)
    refine Ev.step (fun k => rfl) ?_
    simp only [usherlaw6_FieldSafe.j0]
    refine Ev.if_neg (by simp) (hE.bind ?_)
    by_cases h0 : 0 ≤ n
    · exact Ev.if_pos h0 (hj1 r 5 (by rw [if_pos h0]) hr)
    · exact Ev.if_neg h0 (hj1 r 4 (by rw [if_neg h0]) hr)
  obtain ⟨r, hr, hE⟩ := SetCookie.ev (⟨#[107]⟩ : ByteArray) (⟨#[118]⟩ : ByteArray) 7 (by decide) (by decide) (by decide)
  have hk : (tokL (bytesOf (⟨#[107]⟩ : ByteArray)) && cookL (bytesOf (⟨#[118]⟩ : ByteArray))) = true := by decide +kernel
  rw [if_pos hk] at hE
  have hrb : bytesOf r = bytesOf (⟨#[107, 61, 118, 59, 32, 80, 97, 116, 104, 61, 47, 59, 32, 77, 97, 120, 45, 65, 103, 101, 61, 55, 59, 32, 83, 101, 99, 117, 114, 101, 59, 32, 72, 116, 116, 112, 79, 110, 108, 121, 59, 32, 83, 97, 109, 101, 83, 105, 116, 101, 61, 76, 97, 120]⟩ : ByteArray) := by
    rw [hr]; decide +kernel
  have hre := ext_bytes hrb
  simp only [usherlaw6_FieldSafe.f]
  refine hE.bind (Ev.if_pos rfl ?_)
  have e : (r.toList != ([107, 61, 118, 59, 32, 80, 97, 116, 104, 61, 47, 59, 32, 77, 97, 120, 45, 65, 103, 101, 61, 55, 59, 32, 83, 101, 99, 117, 114, 101, 59, 32, 72, 116, 116, 112, 79, 110, 108, 121, 59, 32, 83, 97, 109, 101, 83, 105, 116, 101, 61, 76, 97, 120] : List UInt8)) = false := by
    rw [bne_eq_false_iff_eq]
    exact (toList_lit _ _).2 hre
  rw [e]
  exact hj0
end Go.Proofs.YtdlfdmbaejhaaaaDoor.Q
