/- What the document's own Read answers is what Read answers; ReplyReadExact answers true. Conditions: the text has at most 1048576 bytes. -/
import Derived.Test.YtdlfdmbaejhaaaaDoorQ14b
import Derived.Test.YtdlfdmbaejhaaaaDoorPRef8
set_option linter.unusedVariables false
set_option linter.unusedSimpArgs false
namespace Go.Proofs.YtdlfdmbaejhaaaaDoor.Q
open Go.RowKit Go.Proofs.YtdlfdmbaejhaaaaDoorW.PrintWords Go.Proofs.YtdlfdmbaejhaaaaDoorW.PrintLast Go.Proofs.YtdlfdmbaejhaaaaDoorW.PrintMore
theorem valD_lt : ∀ (l : List UInt8) (n : Nat), l.all digU = true → valD l n + 1 ≤ (n + 1) * 10 ^ l.length := by
  intro l
  induction l with
  | nil => intro n _; simp [valD]
  | cons b l ih =>
    intro n h
    rw [List.all_cons, Bool.and_eq_true] at h
    have hb : b.toNat ≤ 57 := by
      have h1 := h.1
      unfold digU at h1
      rw [Bool.and_eq_true] at h1
      exact UInt8.le_iff_toNat_le.1 (of_decide_eq_true h1.2)
    have := ih (10 * n + (b.toNat - 48)) h.2
    have e : valD (b :: l) n = valD l (10 * n + (b.toNat - 48)) := rfl
    rw [e, List.length_cons, Nat.pow_succ]
    calc valD l (10 * n + (b.toNat - 48)) + 1 ≤ (10 * n + (b.toNat - 48) + 1) * 10 ^ l.length := this
      _ ≤ ((n + 1) * 10) * 10 ^ l.length := Nat.mul_le_mul_right _ (by omega)
      _ = (n + 1) * (10 ^ l.length * 10) := by rw [Nat.mul_assoc, Nat.mul_comm 10]
theorem numR_rng (l : List UInt8) : -1 ≤ numR l ∧ numR l < 10000000 := by
  unfold numR
  split
  · omega
  · rename_i h
    have h7 : l.length ≤ 7 := by
      rcases Nat.lt_or_ge 7 l.length with h' | h'
      · exact absurd (Or.inr (Or.inl h')) h
      · exact h'
    have hd : l.all digU = true := by
      cases hd : l.all digU with
      | true => rfl
      | false => exact absurd (Or.inr (Or.inr hd)) h
    have h1 := valD_lt l 0 hd
    have h2 : (10 : Nat) ^ l.length ≤ 10 ^ 7 := Nat.pow_le_pow_right (by omega) h7
    omega
/-- The answer that a head may be: status, fields, close, length. -/
def foundR (x : List UInt8) : Int × List PU × Bool × Int :=
  if (linC [] x).length < 3 ∨ 64 < (linC [] x).length - 3 ∨ ((linC [] x).getD 0 []).length < 12 ∨ ((linC [] x).getD ((linC [] x).length - 2) []).length < 16 then (0, [], false, -1)
  else (numR ((((linC [] x).getD 0 []).take 12).drop 9), (((linC [] x).take ((linC [] x).length - 2)).drop 1).map fieldR, (linC [] x).getD ((linC [] x).length - 1) [] == connU true, numR (((linC [] x).getD ((linC [] x).length - 2) []).drop 16))
theorem rd_mk (l : List (List UInt8)) (i : Nat) (h : i < l.length) : rdOf ByteArray.empty (l.map mk) (i : Int) = mk (l.getD i []) := by
  unfold rdOf
  rw [Int.toNat_natCast, List.getD_eq_getElem?_getD, List.getElem?_map, List.getD_eq_getElem?_getD, List.getElem?_eq_getElem h]; rfl
theorem found_l0.ev (l : List (List UInt8)) (hl : ∀ m ∈ l, m.length ≤ 2147483648) (h2 : 2 ≤ l.length) (hk : l.length ≤ 1000) (s n : Int) (c : Bool) : ∀ (d i : Nat) (acc : List PU), i + d = l.length - 2 → acc.length ≤ i →
    Ev (fun k => usherref8_found.l0 k (l.map mk) ((l.map mk).length : Int) n (i : Int) s (acc.map unP) (⟨#[]⟩ : ByteArray) c) (s, (acc ++ ((l.take (l.length - 2)).drop i).map fieldR).map unP, (⟨#[]⟩ : ByteArray), c, n) := by
  have hlm : (l.map mk).length = l.length := List.length_map ..
  intro d
  induction d with
  | zero =>
    intro i acc hi ha
    refine Ev.step (fun k => rfl) ?_
    simp only [usherref8_found.l0, hlm, wrapZ (x := (l.length : Int) - 2) (y := ((l.length - 2 : Nat) : Int)) (by omega) (by omega)]
    refine Ev.eq (Ev.if_neg (by omega) (Ev.now _)) ?_
    rw [List.drop_eq_nil_of_le (by rw [List.length_take]; omega)]; simp
  | succ d ih =>
    intro i acc hi ha
    have hlt : i < l.length := by omega
    have hlt2 : i < (l.take (l.length - 2)).length := by rw [List.length_take]; omega
    have hg : l.getD i [] = (l.take (l.length - 2))[i] := by
      rw [List.getElem_take, List.getD_eq_getElem?_getD, List.getElem?_eq_getElem hlt]; rfl
    have hm := hl _ (List.getElem_mem hlt)
    have hsz : (mk (l.getD i [])).size ≤ 2147483648 := by
      rw [mk_size, hg, List.getElem_take]; exact hm
    refine Ev.step (fun k => rfl) ?_
    simp only [usherref8_found.l0, hlm, wrapZ (x := (l.length : Int) - 2) (y := ((l.length - 2 : Nat) : Int)) (by omega) (by omega), rd_mk l i hlt, wrapN i (by omega)]
    refine Ev.if_pos (by omega) (Ev.if_pos (by omega) (Ev.if_pos (by omega) ?_))
    have hF := field8.ev _ hsz
    rw [U_mk] at hF
    refine hF.bind (Ev.if_pos (by rw [List.length_map]; omega) ?_)
    have := ih (i + 1) (acc ++ [fieldR (l.getD i [])]) (by omega) (by simp; omega)
    rw [hlm] at this
    have e : (acc ++ [fieldR (l.getD i [])]).map unP = acc.map unP ++ [(⟨mk (fieldR (l.getD i [])).1, mk (fieldR (l.getD i [])).2⟩ : S26)] := by rw [List.map_append]; rfl
    rw [e] at this
    refine Ev.eq this ?_
    rw [List.drop_eq_getElem_cons hlt2, hg]
    simp
theorem lens_mem {ls : List (List UInt8)} {l : List UInt8} (h : l ∈ ls) : l.length ≤ lens ls := by
  induction ls with
  | nil => cases h
  | cons a ls ih =>
    unfold lens at *
    rw [List.map_cons, List.sum_cons]
    rcases List.mem_cons.1 h with rfl | h
    · omega
    · have := ih h; omega
theorem found8.ev (x : List UInt8) (hx : x.length ≤ 2147483600) : Ev (fun k => usherref8_found.f k (mk (x ++ emptyL))) ((foundR x).1, (foundR x).2.1.map unP, (⟨#[]⟩ : ByteArray), (foundR x).2.2.1, (foundR x).2.2.2) := by
  have he : emptyL.length = 4 := rfl
  have hsz : (mk (x ++ emptyL)).size = x.length + 4 := by rw [mk_size, List.length_append, he]
  have hlen := linC_len _ x [] (Nat.le_refl _)
  have hmem : ∀ m ∈ linC [] x, m.length ≤ 2147483648 := fun m hm => by have := lens_mem hm; have := hlen.2; simp only [List.length_nil] at this; omega
  simp only [usherref8_found.f, hsz]
  rw [wrapZ (x := ((x.length + 4 : Nat) : Int) - 4) (y := (x.length : Int)) (by omega) (by omega)]
  refine Ev.if_pos (by omega) (Ev.if_pos (by omega) ?_)
  have ex : (mk (x ++ emptyL)).extract 0 ((x.length : Int)).toNat = mk x := U_inj (by rw [U_extract, U_mk, U_mk, Int.toNat_natCast, List.drop_zero, List.take_left])
  rw [ex]
  have hL := lines8.ev (mk x) (by rw [mk_size]; omega)
  rw [U_mk] at hL
  refine hL.bind ?_
  unfold foundR
  generalize linC [] x = l at *
  have hlm : (l.map mk).length = l.length := List.length_map ..
  simp only [hlm]
  have hno : Ev (fun k => usherref8_found.j0 k (l.map mk) (l.length : Int) true) ((0 : Int), ([] : List S26), (⟨#[]⟩ : ByteArray), false, (-1 : Int)) := Ev.step (f := fun _ => some ((0 : Int), ([] : List S26), (⟨#[]⟩ : ByteArray), false, (-1 : Int))) (fun k => by rw [usherref8_found.j0, if_pos rfl]) (Ev.now _)
  by_cases h3 : l.length < 3
  · rw [if_pos (Or.inl h3)]
    exact Ev.if_pos (by omega) hno
  · refine Ev.if_neg (by omega) ?_
    rw [wrapZ (x := (l.length : Int) - 3) (y := ((l.length - 3 : Nat) : Int)) (by omega) (by omega)]
    by_cases h64 : 64 < l.length - 3
    · rw [if_pos (Or.inr (Or.inl h64))]
      exact Ev.if_pos (by omega) hno
    · refine Ev.if_neg (by omega) (Ev.if_pos (by omega) ?_)
      have r0 := rd_mk l 0 (by omega)
      have r0 : rdOf ByteArray.empty (l.map mk) 0 = mk (l.getD 0 []) := r0
      simp only [r0, mk_size]
      by_cases h12 : (l.getD 0 []).length < 12
      · rw [if_pos (Or.inr (Or.inr (Or.inl h12)))]
        exact Ev.if_pos (by omega) hno
      · refine Ev.if_neg (by omega) ?_
        rw [wrapZ (x := (l.length : Int) - 2) (y := ((l.length - 2 : Nat) : Int)) (by omega) (by omega)]
        refine Ev.if_pos (by omega) (Ev.if_pos (by omega) ?_)
        rw [rd_mk l (l.length - 2) (by omega), mk_size]
        by_cases h16 : (l.getD (l.length - 2) []).length < 16
        · rw [if_pos (Or.inr (Or.inr (Or.inr h16))), decide_eq_true (show (((l.getD (l.length - 2) []).length : Nat) : Int) < 16 by omega)]
          exact hno
        · rw [if_neg (fun h => h.elim h3 (fun h => h.elim h64 (fun h => h.elim h12 h16))), decide_eq_false (show ¬ (((l.getD (l.length - 2) []).length : Nat) : Int) < 16 by omega)]
          refine Ev.step (fun k => rfl) ?_
          simp only [usherref8_found.j0, hlm, r0, mk_size, wrapZ (x := (l.length : Int) - 1) (y := ((l.length - 1 : Nat) : Int)) (by omega) (by omega), wrapZ (x := (l.length : Int) - 2) (y := ((l.length - 2 : Nat) : Int)) (by omega) (by omega), rd_mk l (l.length - 2) (by omega), rd_mk l (l.length - 1) (by omega)]
          refine Ev.if_neg (by simp) (Ev.if_pos (by omega) (Ev.if_pos (by omega) (Ev.if_pos (by omega) (Ev.if_pos (by decide) (Ev.if_pos (by omega) ?_)))))
          have m0 : ∀ i : Nat, (l.getD i []).length ≤ 2147483648 := by
            intro i
            rw [List.getD_eq_getElem?_getD]
            cases e : l[i]? with
            | none => simp
            | some m => exact hmem m (List.mem_of_getElem? e)
          have e0 : (mk (l.getD 0 [])).extract 9 12 = mk (((l.getD 0 []).take 12).drop 9) := U_inj (by rw [U_extract, U_mk, U_mk])
          have e1 : (mk (l.getD (l.length - 2) [])).extract 16 (l.getD (l.length - 2) []).length = mk ((l.getD (l.length - 2) []).drop 16) := by
            have := mk_size (l.getD (l.length - 2) [])
            rw [← this]
            exact U_inj (by rw [U_extract_end, U_mk, U_mk])
          have n0 := number8.ev (mk (((l.getD 0 []).take 12).drop 9)) (by rw [mk_size, List.length_drop, List.length_take]; omega)
          have n1 := number8.ev (mk ((l.getD (l.length - 2) []).drop 16)) (by rw [mk_size, List.length_drop]; have := m0 (l.length - 2); omega)
          rw [U_mk] at n0 n1
          rw [e0, e1]
          refine n0.bind (Ev.if_pos (by omega) (Ev.if_pos (by omega) (Ev.if_pos (by omega) (n1.bind ?_))))
          have hF := found_l0.ev l hmem (by omega) (by omega) (numR (((l.getD 0 []).take 12).drop 9)) (numR ((l.getD (l.length - 2) []).drop 16)) ((mk (l.getD (l.length - 1) [])).toList == ([67, 111, 110, 110, 101, 99, 116, 105, 111, 110, 58, 32, 99, 108, 111, 115, 101] : List UInt8)) (l.length - 3) 1 [] (by omega) (by simp)
          rw [hlm] at hF
          refine Ev.eq hF ?_
          rw [toList_U, U_mk]; rfl
/-! ### the two readings are one -/
def okR (x : List UInt8) : Prop := 0 ≤ (foundR x).2.2.2 ∧ (foundR x).2.2.2 ≤ 1048576 ∧ ((phrOf phrasesL (foundR x).1).isSome && (foundR x).2.1.all mayP) = true ∧ headR (foundR x).1 (foundR x).2.1 (foundR x).2.2.2 (foundR x).2.2.1 = x ++ emptyL
theorem numR_dec (n : Nat) (h : n < 10000000) : numR (Lib.itoa (n : Int)) = n := by
  have hp := dec_props n
  have hl := itoa_len n h
  rw [itoa_nat] at hl ⊢
  unfold numR
  rw [if_neg, hp.2.1]
  rintro (e | e | e)
  · exact hp.2.2.1 e
  · omega
  · rw [hp.1] at e; cases e
theorem fieldR_back {q : PU} (h : mayP q = true) : fieldR (fieldU q) = q := by
  have ht := tokU_bytes (mayP_of h).1
  have e : fieldU q = q.1 ++ (58 :: (32 :: q.2)) := rfl
  rw [e, fieldR_colon _ _ (fun b hb => (ht.2 b hb).2.2.1)]
  rfl
theorem found_valid {p : Int × List UInt8} {fs : List PU} {n : Nat} (h : Valid p fs n) (c : Bool) : foundR (joinL (headLs p fs n c)) = (p.1, fs, c, (n : Int)) := by
  have hh := head_lines h c
  have hpr := phr_props h.phr
  have hb := h.big
  have hcn := h.cnt
  unfold foundR
  rw [linC_join _ hh.1 hh.2.1]
  have hlen : (headLs p fs n c).length = fs.length + 3 := by
    unfold headLs tailLs
    rw [List.length_cons, List.length_append, List.length_map]; rfl
  have g0 : (headLs p fs n c).getD 0 [] = stU p := rfl
  have gA : ∀ j, (headLs p fs n c).getD (fs.length + 1 + j) [] = (tailLs n c).getD j [] := by
    intro j
    unfold headLs
    rw [show fs.length + 1 + j = (fs.length + j) + 1 by omega, List.getD_cons_succ, List.getD_eq_getElem?_getD, List.getElem?_append_right (by rw [List.length_map]; omega), List.length_map, Nat.add_sub_cancel_left, ← List.getD_eq_getElem?_getD]
  have g1 : (headLs p fs n c).getD (fs.length + 3 - 2) [] = clenU ++ Lib.itoa (n : Int) := gA 0
  have g2 : (headLs p fs n c).getD (fs.length + 3 - 1) [] = connU c := gA 1
  have hst : stU p = [72, 84, 84, 80, 47, 49, 46, 49, 32] ++ (Lib.itoa p.1 ++ ([32] ++ p.2)) := rfl
  have hstl : (stU p).length = 13 + p.2.length := by rw [hst]; simp only [List.length_append, List.length_cons, List.length_nil]; omega
  have hcl : (clenU ++ Lib.itoa (n : Int)).length = 16 + (Lib.itoa (n : Int)).length := by rw [List.length_append]; rfl
  rw [hlen, g0, g1, g2, if_neg (by omega)]
  have n0 : numR (((stU p).take 12).drop 9) = p.1 := by
    have e : ((stU p).take 12).drop 9 = Lib.itoa p.1 := by
      rw [hst, List.drop_take, List.drop_left' (by rfl), List.take_left' (by omega)]
    rw [e]
    have := numR_dec p.1.toNat (by omega)
    rwa [Int.toNat_of_nonneg (by omega)] at this
  have n1 : numR ((clenU ++ Lib.itoa (n : Int)).drop 16) = n := by
    rw [List.drop_left' (by rfl)]
    exact numR_dec n (by omega)
  have hf : (((headLs p fs n c).take (fs.length + 3 - 2)).drop 1).map fieldR = fs := by
    have e : ((headLs p fs n c).take (fs.length + 3 - 2)).drop 1 = fs.map fieldU := by
      unfold headLs
      rw [show fs.length + 3 - 2 = fs.length + 1 by omega, List.take_succ_cons, List.drop_succ_cons, List.drop_zero, List.take_left' (by rw [List.length_map])]
    rw [e, List.map_map]
    conv => rhs; rw [← List.map_id fs]
    refine List.map_congr_left fun q hq => ?_
    exact fieldR_back (List.all_eq_true.1 h.may q hq)
  rw [n0, n1, hf]
  cases c <;> rfl
theorem found_cnt (x : List UInt8) : (foundR x).2.1.length ≤ 64 := by
  unfold foundR
  split
  · simp
  · rename_i h
    rw [List.length_map, List.length_drop, List.length_take]
    have : ¬ 64 < (linC [] x).length - 3 := fun h' => h (Or.inr (Or.inl h'))
    omega
theorem read_key (x : List UInt8) : (okR x ↔ (scanU x (splitU (mk x)) (-1) 0 0 []).2.2.2.2.2 = true) ∧ (okR x → scanU x (splitU (mk x)) (-1) 0 0 [] = ((foundR x).1, (foundR x).2.1.map unP, (⟨#[]⟩ : ByteArray), (foundR x).2.2.1, (foundR x).2.2.2, true)) := by
  have h1 : okR x → scanU x (splitU (mk x)) (-1) 0 0 [] = ((foundR x).1, (foundR x).2.1.map unP, (⟨#[]⟩ : ByteArray), (foundR x).2.2.1, (foundR x).2.2.2, true) := by
    rintro ⟨h0, h1, h2, h3⟩
    have hc := found_cnt x
    generalize foundR x = r at *
    obtain ⟨s, fs, c, n⟩ := r
    dsimp only at h0 h1 h2 h3 hc ⊢
    rw [Bool.and_eq_true] at h2
    cases hp : phrOf phrasesL s with
    | none => rw [hp] at h2; exact absurd h2.1 (by simp)
    | some p =>
      have hpm := phrOf_mem phrasesL s p hp
      obtain ⟨m, rfl⟩ := Int.eq_ofNat_of_zero_le h0
      have hv : Valid p fs m := ⟨hpm.1, hc, h2.2, by omega⟩
      rw [← hpm.2, headR_valid hpm.1] at h3
      have hx : x = joinL (headLs p fs m c) := (List.append_cancel_right h3).symm
      have := scan_valid hv c x hx
      have hl := head_lines hv c
      have hs := splitU_join _ hl.1 hl.2.1
      rw [← hx] at hs
      rw [hs, ← hpm.2]
      exact this
  refine ⟨⟨fun h => by rw [h1 h], fun h => ?_⟩, h1⟩
  obtain ⟨p, gs, n, c, hv, hx, _⟩ := scan_size x h
  have hF := found_valid hv c
  rw [← hx] at hF
  unfold okR
  rw [hF]
  have hb := hv.big
  refine ⟨by dsimp only; omega, by dsimp only; omega, ?_, ?_⟩
  · dsimp only
    rw [phrOf_at p hv.phr, hv.may]; rfl
  · dsimp only
    rw [headR_valid hv.phr, ← hx]
theorem fieldR_len (l : List UInt8) : (fieldR l).1.length + (fieldR l).2.length ≤ l.length := by
  unfold fieldR
  split
  · have := (List.takeWhile_sublist (l := l) (· != 58)).length_le
    dsimp only
    rw [List.length_drop]; omega
  · simp
theorem bulk_fieldR : ∀ ls : List (List UInt8), bulkP (ls.map fieldR) ≤ lens ls + 4 * ls.length := by
  intro ls
  induction ls with
  | nil => simp [bulkP]
  | cons a ls ih =>
    have h := fieldR_len a
    have e : bulkP ((a :: ls).map fieldR) = (fieldR a).1.length + (fieldR a).2.length + 4 + bulkP (ls.map fieldR) := rfl
    have e2 : lens (a :: ls) = a.length + lens ls := rfl
    rw [e, e2, List.length_cons]; omega
theorem lens_sub {a b : List (List UInt8)} (h : List.Sublist a b) : lens a ≤ lens b := by
  induction h with
  | slnil => exact Nat.le_refl _
  | cons x _ ih =>
    show _ ≤ x.length + lens _
    omega
  | cons_cons x _ ih =>
    show x.length + lens _ ≤ x.length + lens _
    omega
theorem found_bulk (x : List UInt8) (hx : x.length ≤ 2147483600) : bulkP (foundR x).2.1 ≤ 10000000000 ∧ (∀ q ∈ (foundR x).2.1, q.1.length + q.2.length ≤ 2147483648) ∧ -1 ≤ (foundR x).1 ∧ (foundR x).1 < 10000000 ∧ -1 ≤ (foundR x).2.2.2 ∧ (foundR x).2.2.2 < 10000000 := by
  have hlen := linC_len _ x [] (Nat.le_refl _)
  have hmem : ∀ m ∈ linC [] x, m.length ≤ 2147483648 := fun m hm => by have := lens_mem hm; have := hlen.2; simp only [List.length_nil] at this; omega
  unfold foundR
  split
  · exact ⟨by simp [bulkP], by simp, by decide, by decide, by decide, by decide⟩
  · have n0 := numR_rng ((((linC [] x).getD 0 []).take 12).drop 9)
    have n1 := numR_rng (((linC [] x).getD ((linC [] x).length - 2) []).drop 16)
    refine ⟨?_, ?_, n0.1, n0.2, n1.1, n1.2⟩
    · have hs : List.Sublist (((linC [] x).take ((linC [] x).length - 2)).drop 1) (linC [] x) := (List.drop_sublist _ _).trans (List.take_sublist _ _)
      have h1 := bulk_fieldR (((linC [] x).take ((linC [] x).length - 2)).drop 1)
      have h2 := lens_sub hs
      have h3 := hs.length_le
      have h4 := hlen.2
      simp only [List.length_nil] at h4
      have h5 := hlen.1
      dsimp only
      omega
    · intro q hq
      obtain ⟨m, hm, rfl⟩ := List.mem_map.1 hq
      have h1 := fieldR_len m
      have h2 := hmem m (List.mem_of_mem_take (List.mem_of_mem_drop hm))
      omega
/-- The document's number of a refusal. -/
def numE (e : Option Int) : Int := match e with | none => 0 | some c => c
theorem Read8.ev (t : ByteArray) (ht : t.size ≤ 1073741824) : Ev (fun k => usherref8_Read.f k t) ((readU (U t)).1, (readU (U t)).2.1, (readU (U t)).2.2.1, (readU (U t)).2.2.2.1, (readU (U t)).2.2.2.2.1, numE (readU (U t)).2.2.2.2.2) := by
  have hz := size_U t
  simp only [usherref8_Read.f]
  refine (headEnd8.ev t (by omega)).bind ?_
  unfold readU
  by_cases hi : Lib.index (U t) emptyL < 0
  · rw [if_pos hi, if_pos hi]
    exact Ev.if_pos (by omega) (Ev.now _)
  · rw [if_neg hi, if_neg hi]
    have hroom := Lib.index_room (U t) emptyL (by omega)
    have hpre : (U t).take ((Lib.index (U t) emptyL).toNat + 4) = (U t).take (Lib.index (U t) emptyL).toNat ++ emptyL := by
      rcases Lib.index_spec (U t) emptyL with ⟨e, _⟩ | ⟨j, e, _, ho, _⟩
      · omega
      · rw [e, Int.toNat_natCast]
        unfold Lib.occAt at ho
        rw [List.isPrefixOf_iff_prefix] at ho
        have h4 := List.prefix_iff_eq_take.1 ho
        rw [show emptyL.length = 4 from rfl] at h4
        rw [h4, List.take_add]
    have he4 : emptyL.length = 4 := rfl
    rw [he4] at hroom
    obtain ⟨i, hie⟩ := Int.eq_ofNat_of_zero_le (show 0 ≤ Lib.index (U t) emptyL by omega)
    rw [hie] at hroom hpre ⊢
    rw [Int.toNat_natCast] at hpre ⊢
    clear hie hi
    have hw : ((i : Nat) : Int) + 4 = ((i + 4 : Nat) : Int) := by omega
    rw [hw]
    refine Ev.if_neg (by omega) (Ev.if_pos (by omega) (Ev.if_pos (by omega) ?_))
    have ex : t.extract 0 (((i + 4 : Nat) : Int)).toNat = mk ((U t).take i ++ emptyL) := U_inj (by rw [U_extract, U_mk, Int.toNat_natCast, List.drop_zero, hpre])
    rw [ex]
    have hxl : ((U t).take i).length = i := by rw [List.length_take]; omega
    have hF := found8.ev ((U t).take i) (by omega)
    have hB := found_bulk ((U t).take i) (by omega)
    have hK := read_key ((U t).take i)
    have hC := found_cnt ((U t).take i)
    refine hF.bind ?_
    have hok : okR ((U t).take i) = (0 ≤ (foundR ((U t).take i)).2.2.2 ∧ (foundR ((U t).take i)).2.2.2 ≤ 1048576 ∧ ((phrOf phrasesL (foundR ((U t).take i)).1).isSome && (foundR ((U t).take i)).2.1.all mayP) = true ∧ headR (foundR ((U t).take i)).1 (foundR ((U t).take i)).2.1 (foundR ((U t).take i)).2.2.2 (foundR ((U t).take i)).2.2.1 = (U t).take i ++ emptyL) := rfl
    generalize okR ((U t).take i) = ok at *
    generalize foundR ((U t).take i) = r at *
    obtain ⟨s, fs, c, n⟩ := r
    dsimp only at hB hC hK hok ⊢
    have hlm : (fs.map unP).length = fs.length := List.length_map ..
    have hM := may8.ev s (fs.map unP) (⟨#[]⟩ : ByteArray) c (by omega) (fun x hx => by
      obtain ⟨q, hq, rfl⟩ := List.mem_map.1 hx
      have := hB.2.1 q hq
      show (mk q.1).size ≤ _ ∧ (mk q.2).size ≤ _
      rw [mk_size, mk_size]; omega)
    have hH := head8.ev s n (by omega) (by omega) (fs.map unP) (by omega) (⟨#[]⟩ : ByteArray) c (by rw [map_unP]; omega)
    rw [map_unP] at hM hH
    refine hM.bind (hH.bind ?_)
    have hno : Ev (fun k => usherref8_Read.j0 k t ((i + 4 : Nat) : Int) n true s (fs.map unP) (⟨#[]⟩ : ByteArray) c) ((0 : Int), ([] : List S26), (⟨#[]⟩ : ByteArray), false, (0 : Int), (2 : Int)) := Ev.step (f := fun _ => some ((0 : Int), ([] : List S26), (⟨#[]⟩ : ByteArray), false, (0 : Int), (2 : Int))) (fun k => by rw [usherref8_Read.j0, if_pos rfl]) (Ev.now _)
    by_cases hk : ok
    · have hsc := hK.2 hk
      rw [hok] at hk
      obtain ⟨h0, h1, h2, h3⟩ := hk
      rw [hsc]
      dsimp only
      rw [if_pos rfl]
      refine Ev.if_neg (by omega) (Ev.if_neg (by omega) (Ev.if_pos h2 ?_))
      have hne : ((mk (headR s fs n c)).toList != (mk ((U t).take i ++ emptyL)).toList) = false := by rw [h3]; simp
      rw [hne]
      obtain ⟨m, rfl⟩ := Int.eq_ofNat_of_zero_le h0
      refine Ev.step (fun k => rfl) ?_
      simp only [usherref8_Read.j0, wrapZ (x := (t.size : Int) - ((i + 4 : Nat) : Int)) (y := ((t.size - (i + 4) : Nat) : Int)) (by omega) (by omega), wrapZ (x := ((i + 4 : Nat) : Int) + (m : Int)) (y := ((i + 4 + m : Nat) : Int)) (by omega) (by omega)]
      refine Ev.if_neg (by simp) ?_
      by_cases hs : t.size - (i + 4) < m
      · refine Ev.if_pos (by omega) ?_
        rw [if_pos (by omega)]
        exact Ev.now _
      · refine Ev.if_neg (by omega) (Ev.if_pos (by omega) (Ev.if_pos (by omega) (Ev.if_pos (by omega) ?_)))
        rw [if_neg (by omega)]
        have e1 : t.extract (((i + 4 : Nat) : Int)).toNat (((i + 4 + m : Nat) : Int)).toNat = mk (((U t).drop (i + 4)).take ((m : Int)).toNat) := U_inj (by
          rw [U_extract, U_mk, Int.toNat_natCast, Int.toNat_natCast, Int.toNat_natCast, List.drop_take]
          congr 1; omega)
        rw [e1]
        refine Ev.eq (Ev.now _) ?_
        rw [show (((i + 4 + m : Nat) : Int)) = ((i + 4 : Nat) : Int) + (m : Int) by omega]
        rfl
    · have hsc : (scanU ((U t).take i) (splitU (mk ((U t).take i))) (-1) 0 0 []).2.2.2.2.2 ≠ true := fun h => hk (hK.1.2 h)
      rw [if_neg hsc]
      rw [hok] at hk
      by_cases h0 : n < 0
      · exact Ev.if_pos h0 hno
      · refine Ev.if_neg h0 ?_
        by_cases h1 : n > 1048576
        · exact Ev.if_pos h1 hno
        · refine Ev.if_neg h1 ?_
          by_cases h2 : ((phrOf phrasesL s).isSome && fs.all mayP) = true
          · refine Ev.if_pos h2 ?_
            have hne : ((mk (headR s fs n c)).toList != (mk ((U t).take i ++ emptyL)).toList) = true := by
              rw [toList_U, toList_U, U_mk, U_mk, bne_iff_ne]
              exact fun h3 => hk ⟨by omega, by omega, h2, h3⟩
            rw [hne]
            exact hno
          · exact Ev.if_neg h2 hno
theorem readU_cnt (t : List UInt8) : (readU t).2.1.length ≤ 64 := by
  unfold readU
  split
  · simp [shortR]
  · dsimp only
    split
    · rename_i h
      obtain ⟨p, gs, n, c, hv, _, hs⟩ := scan_size _ h
      split
      · simp [shortR]
      · rw [hs]; dsimp only; rw [List.length_map]; exact hv.cnt
    · simp [textR]
theorem readU_err (t : List UInt8) : (readU t).2.2.2.2.2 = none ∨ (readU t).2.2.2.2.2 = some 2 ∨ (readU t).2.2.2.2.2 = some 6 := by
  unfold readU
  split
  · exact Or.inr (Or.inr rfl)
  · dsimp only
    split
    · split
      · exact Or.inr (Or.inr rfl)
      · exact Or.inl rfl
    · exact Or.inr (Or.inl rfl)
theorem ReplyReadExact_pure (x : ByteArray) (_ : x.size ≤ 140737488351232) (hbk : x.size ≤ 1048576) : ∃ k, usherlaw8_ReplyReadExact.f k x = some true := by
  refine Ev.rounds (g := fun k => usherlaw8_ReplyReadExact.f k x) ?_
  simp only [usherlaw8_ReplyReadExact.f]
  refine (reply_Read.ev x (by omega)).bind ((Read8.ev x (by omega)).bind ?_)
  have hc := readU_cnt (U x)
  have he := readU_err (U x)
  generalize readU (U x) = r at *
  obtain ⟨s, fs, b, c, n, e⟩ := r
  dsimp only at hc he ⊢
  refine (SameReply_self s fs b c (by omega)).bind (Ev.if_pos rfl (Ev.if_pos rfl ?_))
  rcases he with rfl | rfl | rfl <;> exact Ev.now _
end Go.Proofs.YtdlfdmbaejhaaaaDoor.Q
