/- What the document's own reading of an answer (usherref8.Read) and its parts answer, as plain functions of the bytes. Conditions: a text has at most 2^31 bytes. -/
import Derived.Test.YtdlfdmbaejhaaaaDoorQ14
import Derived.Test.YtdlfdmbaejhaaaaDoorPCore
import Derived.Test.YtdlfdmbaejhaaaaDoorPGramR
set_option linter.unusedVariables false
set_option linter.unusedSimpArgs false
namespace Go.Proofs.YtdlfdmbaejhaaaaDoor.Q
open Go.RowKit Go.Proofs.YtdlfdmbaejhaaaaDoorW.PrintWords Go.Proofs.YtdlfdmbaejhaaaaDoorW.PrintLast Go.Proofs.YtdlfdmbaejhaaaaDoorW.PrintMore
theorem wrapZ {x y : Int} (h : x = y) (r : -9223372036854775808 ≤ y ∧ y ≤ 9223372036854775807) : wrap64 x = y := by subst h; exact wrap64_of r
theorem wrapN (n : Nat) (h : n < 9223372036854775807) : wrap64 ((n : Int) + 1) = ((n + 1 : Nat) : Int) := wrapZ (by omega) (by omega)
theorem nat_snoc8 (l : List UInt8) (b : UInt8) : nat l ++ [(b.toNat : Int)] = nat (l ++ [b]) := by simp [nat]
theorem phrase_cons8 (x : Int × List UInt8) (r : List (Int × List UInt8)) (s : Int) : some (phraseOf (x :: r) s) = if s = x.1 then some ⟨x.2.toArray⟩ else some (phraseOf r s) := by
  simp only [phraseOf, eq_comm (a := s)]
  split <;> rfl
theorem reasonR (a0 : Int) : usherref8_Reason.f a0 = some (phraseOf phrasesL a0) := by
  have e : phraseOf [] a0 = ⟨#[]⟩ := rfl
  simp only [usherref8_Reason.f, usherref8_rarer.f, phrasesL, phrase_cons8, e, opt_bind_some]
/-! ### names, fields -/
def lowC (b : UInt8) : UInt8 := if 65 ≤ b ∧ b ≤ 90 then b + 32 else b
theorem lowC_at : ∀ c : Fin 256, (if (c.val : Int) ≥ 65 then (if (c.val : Int) ≤ 90 then ((c.val : Int) + 32) % 256 else (c.val : Int)) else (c.val : Int)) = ((lowC (UInt8.ofNat c.val)).toNat : Int) := by decide +kernel
theorem lowC_of (b : UInt8) : (if (b.toNat : Int) ≥ 65 then (if (b.toNat : Int) ≤ 90 then ((b.toNat : Int) + 32) % 256 else (b.toNat : Int)) else (b.toNat : Int)) = ((lowC b).toNat : Int) := by
  have := lowC_at ⟨b.toNat, b.toNat_lt⟩
  simpa using this
theorem small8.ev (s : ByteArray) (hs : s.size ≤ 1099511627776) : Ev (fun k => usherref8_small.f k s) (mk (lowU (U s))) := by
  have hz := size_U s
  have H : ∀ (d i : Nat) (a : List UInt8), i + d = (U s).length → a.length ≤ i → Ev (fun k => usherref8_small.l0 k s (nat a) (i : Int)) (mk (a ++ lowU ((U s).drop i))) := by
    intro d
    induction d with
    | zero =>
      intro i a hi _
      refine Ev.step (f := fun k => some (strOfNums (nat a))) (fun k => by rw [usherref8_small.l0, if_neg (by omega)]) ?_
      rw [List.drop_eq_nil_of_le (by omega), strOf_nat]
      refine Ev.eq (Ev.now _) ?_
      simp [lowU]
    | succ d ih =>
      intro i a hi ha
      have h : i < (U s).length := by omega
      have hn := nat_length a
      refine Ev.step (fun k => rfl) ?_
      simp only [usherref8_small.l0, wrapN i (by omega)]
      refine Ev.if_pos (by omega) (Ev.if_pos (by omega) ?_)
      rw [List.drop_eq_getElem_cons h]
      simp only [bt_U s i h]
      generalize (U s)[i] = b at *
      have hl := lowC_of b
      have e : lowU (b :: (U s).drop (i + 1)) = lowC b :: lowU ((U s).drop (i + 1)) := rfl
      rw [e]
      have := ih (i + 1) (a ++ [lowC b]) (by omega) (by simp; omega)
      simp only [List.append_assoc, List.cons_append, List.nil_append] at this
      rw [← nat_snoc8, ← hl] at this
      by_cases h1 : (b.toNat : Int) ≥ 65
      · by_cases h2 : (b.toNat : Int) ≤ 90
        · rw [if_pos h1, if_pos h2] at this
          exact Ev.if_pos h1 (Ev.if_pos h2 (Ev.if_pos (by omega) this))
        · rw [if_pos h1, if_neg h2] at this
          exact Ev.if_pos h1 (Ev.if_neg h2 (Ev.if_pos (by omega) this))
      · rw [if_neg h1] at this
        exact Ev.if_neg h1 (Ev.if_pos (by omega) this)
  have := H (U s).length 0 [] (by omega) (by simp)
  simpa [usherref8_small.f, nat] using this
theorem own8_eq : ownL = [[99, 111, 110, 116, 101, 110, 116, 45, 108, 101, 110, 103, 116, 104], [99, 111, 110, 110, 101, 99, 116, 105, 111, 110], [116, 114, 97, 110, 115, 102, 101, 114, 45, 101, 110, 99, 111, 100, 105, 110, 103]] := rfl
theorem field8May.ev (x : S26) (h0 : x.f0.size ≤ 1099511627776) (h1 : x.f1.size ≤ 1099511627776) : Ev (fun k => usherref8_fieldMayBe.f k x.f0 x.f1) (mayP (pU x)) := by
  simp only [usherref8_fieldMayBe.f]
  have hT := usherref6_Token.ev x.f0 (by omega)
  have hV := usherref6_Value.ev x.f1 (by omega)
  rw [tok_U] at hT
  rw [val_U] at hV
  refine hT.bind (hV.bind ((small8.ev x.f0 h0).bind ?_))
  have e : mayP (pU x) = (tokU (U x.f0) && valU (U x.f1) && !ownB (U x.f0)) := rfl
  rw [e]
  unfold ownB ownU
  rw [own8_eq, toList_U, U_mk]
  generalize lowU (U x.f0) = n
  by_cases h1 : n = [99, 111, 110, 116, 101, 110, 116, 45, 108, 101, 110, 103, 116, 104]
  · refine Ev.if_pos h1 ?_
    subst h1
    cases tokU (U x.f0) <;> cases valU (U x.f1) <;> exact Ev.now _
  · refine Ev.if_neg h1 ?_
    by_cases h2 : n = [99, 111, 110, 110, 101, 99, 116, 105, 111, 110]
    · refine Ev.if_pos h2 ?_
      subst h2
      cases tokU (U x.f0) <;> cases valU (U x.f1) <;> exact Ev.now _
    · refine Ev.if_neg h2 ?_
      have e2 : List.contains [[99, 111, 110, 116, 101, 110, 116, 45, 108, 101, 110, 103, 116, 104], [99, 111, 110, 110, 101, 99, 116, 105, 111, 110], [116, 114, 97, 110, 115, 102, 101, 114, 45, 101, 110, 99, 111, 100, 105, 110, 103]] n = (n == ([116, 114, 97, 110, 115, 102, 101, 114, 45, 101, 110, 99, 111, 100, 105, 110, 103] : List UInt8)) := by
        rw [Bool.eq_iff_iff]; simp [h1, h2]
      rw [e2]
      cases tokU (U x.f0) <;> cases valU (U x.f1) <;> exact Ev.now _
theorem may8.ev (s : Int) (fs : List S26) (b : ByteArray) (c : Bool) (hf : fs.length < 4398046511104) (hx : ∀ x ∈ fs, x.f0.size ≤ 1099511627776 ∧ x.f1.size ≤ 1099511627776) :
    Ev (fun k => usherref8_mayBe.f k s fs b c) ((phrOf phrasesL s).isSome && (fs.map pU).all mayP) := by
  have H : ∀ (d i : Nat), i + d = fs.length → Ev (fun k => usherref8_mayBe.l0 k (i : Int) s fs b c) (((fs.drop i).map pU).all mayP) := by
    intro d
    induction d with
    | zero =>
      intro i hi
      refine Ev.step (f := fun k => some true) (fun k => by rw [usherref8_mayBe.l0, if_neg (by omega)]) ?_
      rw [List.drop_eq_nil_of_le (by omega)]
      exact Ev.now _
    | succ d ih =>
      intro i hi
      have hlt : i < fs.length := by omega
      have hm := hx _ (List.getElem_mem hlt)
      have hrd : rd_T26 fs (i : Int) = fs[i] := by simp [rd_T26, rdOf, hlt]
      refine Ev.step (fun k => rfl) ?_
      simp only [usherref8_mayBe.l0, hrd, wrapN i (by omega)]
      refine Ev.if_pos (by omega) (Ev.if_pos (by omega) ?_)
      rw [List.drop_eq_getElem_cons hlt, List.map_cons, List.all_cons]
      refine (field8May.ev fs[i] hm.1 hm.2).bind ?_
      cases mayP (pU fs[i])
      · exact Ev.if_neg (by simp) (Ev.now _)
      · exact Ev.if_pos rfl (ih (i + 1) (by omega))
  have h0 := H fs.length 0 (by omega)
  simp only [usherref8_mayBe.f, reasonR, Option.bind_some, phraseOf_some]
  cases hp : phrOf phrasesL s with
  | none => exact Ev.if_pos (by rw [toList_U]; exact U_mk []) (Ev.now _)
  | some p =>
    have hpm := phrOf_mem phrasesL s p hp
    have hne := (phr_props hpm.1).2.2.2.2.1
    refine Ev.if_neg (by rw [toList_U, U_mk]; exact hne) ?_
    exact Ev.eq h0 (by simp)
/-! ### head -/
/-- The words of a status; none where it is unknown. -/
def phrW (s : Int) : List UInt8 := match phrOf phrasesL s with | none => [] | some p => p.2
def headR (s : Int) (fs : List PU) (n : Int) (c : Bool) : List UInt8 := linesU (stU (s, phrW s) :: (fs.map fieldU ++ [clenU ++ Lib.itoa n, connU c])) ++ crlf
theorem phrW_len (s : Int) : (phrW s).length ≤ 40 := by
  unfold phrW
  cases hp : phrOf phrasesL s with
  | none => simp
  | some p => exact (phr_props (phrOf_mem phrasesL s p hp).1).2.2.2.1
theorem itoa_len20 (n : Int) (h : -9223372036854775808 ≤ n ∧ n ≤ 9223372036854775807) : (Lib.itoa n).length ≤ 21 := by
  unfold Lib.itoa
  have h1 : ∀ m : Nat, m ≤ 9223372036854775808 → (Lib.decDigits m).length ≤ 20 := by
    intro m hm
    have := nDig_le 19 m (by omega)
    rw [Lib.decDigits_length]; omega
  split
  · rw [List.length_cons]
    have := h1 n.natAbs (by omega)
    omega
  · have := h1 n.toNat (by omega)
    omega
theorem head8_l0.ev (s n : Int) (hn : -9223372036854775808 ≤ n ∧ n ≤ 9223372036854775807) (fs : List S26) (hfl : fs.length < 4398046511104) (b : ByteArray) (c : Bool) : ∀ (d i : Nat) (a : List UInt8), i + d = fs.length → a.length + bulkP ((fs.drop i).map pU) ≤ 70368744177664 →
    Ev (fun k => usherref8_head.l0 k n (nat a) (i : Int) s fs b c) (mk (a ++ (linesU (((fs.drop i).map pU).map fieldU ++ [clenU ++ Lib.itoa n, connU c]) ++ crlf))) := by
  intro d
  induction d with
  | zero =>
    intro i a hi ha
    have hna := nat_length a
    have hi20 := itoa_len20 n hn
    rw [List.drop_eq_nil_of_le (by omega)] at ha ⊢
    have hb0 : bulkP (([] : List S26).map pU) = 0 := rfl
    rw [hb0] at ha
    refine Ev.step (fun k => rfl) ?_
    simp only [usherref8_head.l0, itoa_some n hn, Option.bind_some]
    refine Ev.if_neg (by omega) ?_
    have z1 : (mk (Lib.itoa n)).size = (Lib.itoa n).length := mk_size _
    have z2 : ((⟨#[67, 111, 110, 116, 101, 110, 116, 45, 76, 101, 110, 103, 116, 104, 58, 32]⟩ : ByteArray) ++ mk (Lib.itoa n)).size = 16 + (Lib.itoa n).length := by rw [ByteArray.size_append, z1]; rfl
    have z3 : (((⟨#[67, 111, 110, 116, 101, 110, 116, 45, 76, 101, 110, 103, 116, 104, 58, 32]⟩ : ByteArray) ++ mk (Lib.itoa n)) ++ (⟨#[13, 10]⟩ : ByteArray)).size = 16 + (Lib.itoa n).length + 2 := by rw [ByteArray.size_append, z2]; rfl
    have eB : bytesOf (((⟨#[67, 111, 110, 116, 101, 110, 116, 45, 76, 101, 110, 103, 116, 104, 58, 32]⟩ : ByteArray) ++ mk (Lib.itoa n)) ++ (⟨#[13, 10]⟩ : ByteArray)) = nat (clenU ++ (Lib.itoa n ++ crlf)) := by
      rw [bytesOf_U, U_app, U_app, U_mk, List.append_assoc]; rfl
    have eC : bytesOf (⟨#[67, 111, 110, 110, 101, 99, 116, 105, 111, 110, 58, 32, 99, 108, 111, 115, 101]⟩ : ByteArray) = nat (connU true) := rfl
    have eK : bytesOf (⟨#[67, 111, 110, 110, 101, 99, 116, 105, 111, 110, 58, 32, 107, 101, 101, 112, 45, 97, 108, 105, 118, 101]⟩ : ByteArray) = nat (connU false) := rfl
    have eL : bytesOf (⟨#[13, 10]⟩ : ByteArray) = nat crlf := rfl
    simp only [eB, eC, eK, eL, ← nat_app, nat_length, strOf_nat, List.length_append]
    have hc1 : (connU true).length = 17 := rfl
    have hc2 : (connU false).length = 22 := rfl
    have hcl : clenU.length = 16 := rfl
    have hcr : crlf.length = 2 := rfl
    refine Ev.if_pos (by omega) (Ev.if_pos (by omega) (Ev.if_pos (by omega) ?_))
    have fin : ∀ c : Bool, mk (a ++ (clenU ++ (Lib.itoa n ++ crlf)) ++ connU c ++ crlf ++ crlf) = mk (a ++ (linesU (([] : List PU).map fieldU ++ [clenU ++ Lib.itoa n, connU c]) ++ crlf)) := by
      intro c
      congr 1
      show _ = a ++ (((clenU ++ Lib.itoa n) ++ (crlf ++ (connU c ++ (crlf ++ [])))) ++ crlf)
      simp only [List.append_assoc, List.append_nil]
    cases c with
    | true =>
      refine Ev.if_pos rfl (Ev.if_pos (by omega) (Ev.if_pos (by omega) (Ev.if_pos (by omega) ?_)))
      exact Ev.eq (Ev.now _) (fin true)
    | false =>
      refine Ev.if_neg (by simp) (Ev.if_pos (by omega) (Ev.if_pos (by omega) (Ev.if_pos (by omega) ?_)))
      exact Ev.eq (Ev.now _) (fin false)
  | succ d ih =>
    intro i a hi ha
    have hlt : i < fs.length := by omega
    have hrd : rd_T26 fs (i : Int) = fs[i] := by simp [rd_T26, rdOf, hlt]
    have hd : (fs.drop i) = fs[i] :: fs.drop (i + 1) := List.drop_eq_getElem_cons hlt
    rw [hd] at ha ⊢
    have hbk : bulkP ((fs[i] :: fs.drop (i + 1)).map pU) = (U fs[i].f0).length + (U fs[i].f1).length + 4 + bulkP ((fs.drop (i + 1)).map pU) := rfl
    rw [hbk] at ha
    have hna := nat_length a
    have z0 := size_U fs[i].f0
    have z1 := size_U fs[i].f1
    refine Ev.step (fun k => rfl) ?_
    simp only [usherref8_head.l0, hrd, wrapN i (by omega)]
    refine Ev.if_pos (by omega) (Ev.if_pos (by omega) ?_)
    have eL : bytesOf (⟨#[13, 10]⟩ : ByteArray) = nat crlf := rfl
    have eS : bytesOf (⟨#[58, 32]⟩ : ByteArray) = nat [58, 32] := rfl
    have hcr : crlf.length = 2 := rfl
    simp only [bytesOf_U fs[i].f0, bytesOf_U fs[i].f1, eL, eS, ← nat_app, nat_length, List.length_append, Option.bind_some, List.length_cons, List.length_nil]
    refine Ev.if_pos (by omega) (Ev.if_pos (by omega) (Ev.if_pos (by omega) (Ev.if_pos (by omega) ?_)))
    refine Ev.eq (ih (i + 1) (a ++ U fs[i].f0 ++ [58, 32] ++ U fs[i].f1 ++ crlf) (by omega) (by simp only [List.length_append, List.length_cons, List.length_nil]; omega)) ?_
    congr 1
    show _ = a ++ ((fieldU (pU fs[i]) ++ (crlf ++ linesU (((fs.drop (i + 1)).map pU).map fieldU ++ [clenU ++ Lib.itoa n, connU c]))) ++ crlf)
    simp only [fieldU, pU, List.append_assoc]
theorem head8.ev (s n : Int) (hs : -9223372036854775808 ≤ s ∧ s ≤ 9223372036854775807) (hn : -9223372036854775808 ≤ n ∧ n ≤ 9223372036854775807) (fs : List S26) (hfl : fs.length < 4398046511104) (b : ByteArray) (c : Bool) (hz : bulkP (fs.map pU) ≤ 35184372088832) :
    Ev (fun k => usherref8_head.f k s fs b c n) (mk (headR s (fs.map pU) n c)) := by
  have hpl := phrW_len s
  have hi20 := itoa_len20 s hs
  have hph : phraseOf phrasesL s = mk (phrW s) := by rw [phraseOf_some]; unfold phrW; cases phrOf phrasesL s <;> rfl
  simp only [usherref8_head.f, reasonR, hph, itoa_some s hs, Option.bind_some]
  have z1 : (mk (Lib.itoa s)).size = (Lib.itoa s).length := mk_size _
  have z0 : (mk (phrW s)).size = (phrW s).length := mk_size _
  have z2 : ((⟨#[72, 84, 84, 80, 47, 49, 46, 49, 32]⟩ : ByteArray) ++ mk (Lib.itoa s)).size = 9 + (Lib.itoa s).length := by rw [ByteArray.size_append, z1]; rfl
  have z3 : (((⟨#[72, 84, 84, 80, 47, 49, 46, 49, 32]⟩ : ByteArray) ++ mk (Lib.itoa s)) ++ (⟨#[32]⟩ : ByteArray)).size = 9 + (Lib.itoa s).length + 1 := by rw [ByteArray.size_append, z2]; rfl
  have z4 : ((((⟨#[72, 84, 84, 80, 47, 49, 46, 49, 32]⟩ : ByteArray) ++ mk (Lib.itoa s)) ++ (⟨#[32]⟩ : ByteArray)) ++ mk (phrW s)).size = 9 + (Lib.itoa s).length + 1 + (phrW s).length := by rw [ByteArray.size_append, z3, z0]
  have z5 : (((((⟨#[72, 84, 84, 80, 47, 49, 46, 49, 32]⟩ : ByteArray) ++ mk (Lib.itoa s)) ++ (⟨#[32]⟩ : ByteArray)) ++ mk (phrW s)) ++ (⟨#[13, 10]⟩ : ByteArray)).size = 9 + (Lib.itoa s).length + 1 + (phrW s).length + 2 := by rw [ByteArray.size_append, z4]; rfl
  refine Ev.if_pos (by omega) (Ev.if_pos (by omega) (Ev.if_pos (by omega) (Ev.if_pos (by omega) (Ev.if_pos (by rw [z5]; simp only [List.length_nil]; omega) ?_))))
  have e : ([] : List Int) ++ bytesOf (((((⟨#[72, 84, 84, 80, 47, 49, 46, 49, 32]⟩ : ByteArray) ++ mk (Lib.itoa s)) ++ (⟨#[32]⟩ : ByteArray)) ++ mk (phrW s)) ++ (⟨#[13, 10]⟩ : ByteArray)) = nat (stU (s, phrW s) ++ crlf) := by
    rw [List.nil_append, bytesOf_U, U_app, U_app, U_app, U_app, U_mk, U_mk]
    congr 1
    show _ = ([72, 84, 84, 80, 47, 49, 46, 49, 32] ++ (Lib.itoa s ++ ([32] ++ phrW s))) ++ crlf
    simp only [List.append_assoc]; rfl
  rw [e]
  have hst : (stU (s, phrW s) ++ crlf).length ≤ 200 := by
    rw [List.length_append]
    show ([72, 84, 84, 80, 47, 49, 46, 49, 32] ++ (Lib.itoa s ++ ([32] ++ phrW s))).length + 2 ≤ _
    simp only [List.length_append, List.length_cons, List.length_nil]; omega
  have := head8_l0.ev s n hn fs hfl b c fs.length 0 (stU (s, phrW s) ++ crlf) (by omega) (by rw [List.drop_zero]; omega)
  rw [List.drop_zero] at this
  refine Ev.eq this ?_
  congr 1
  show _ = (stU (s, phrW s) ++ (crlf ++ linesU ((fs.map pU).map fieldU ++ [clenU ++ Lib.itoa n, connU c]))) ++ crlf
  simp only [List.append_assoc]
theorem headR_valid {p : Int × List UInt8} (hp : p ∈ phrasesL) (fs : List PU) (n : Nat) (c : Bool) : headR p.1 fs (n : Int) c = joinL (headLs p fs n c) ++ emptyL := by
  have hw : phrW p.1 = p.2 := by unfold phrW; rw [phrOf_at p hp]
  unfold headR
  rw [hw]
  show linesU (headLs p fs n c) ++ crlf = _
  rw [linesU_join _ (by simp [headLs]), List.append_assoc]; rfl
/-! ### where a head ends -/
theorem headEnd8.ev (t : ByteArray) (ht : t.size ≤ 2147483648) : Ev (fun k => usherref8_headEnd.f k t) (if Lib.index (U t) emptyL < 0 then -1 else Lib.index (U t) emptyL + 4) := by
  have hz := size_U t
  have H : ∀ (d i : Nat), i + d = (U t).length → Ev (fun k => usherref8_headEnd.l0 k t (i : Int)) (if Lib.index ((U t).drop i) emptyL < 0 then -1 else (i : Int) + Lib.index ((U t).drop i) emptyL + 4) := by
    intro d
    induction d with
    | zero =>
      intro i hi
      refine Ev.step (f := fun k => some (-1)) (fun k => by rw [usherref8_headEnd.l0, if_neg (by rw [wrapZ (x := (i : Int) + 4) (y := (i : Int) + 4) rfl (by omega)]; omega)]) ?_
      rw [List.drop_eq_nil_of_le (by omega)]
      exact Ev.now _
    | succ d ih =>
      intro i hi
      have hlt : i < (U t).length := by omega
      have hd := List.drop_eq_getElem_cons hlt
      have hge := Lib.index_ge ((U t).drop (i + 1)) emptyL
      have hstep : Lib.index ((U t).drop i) emptyL = if emptyL.isPrefixOf ((U t).drop i) = true then 0 else if Lib.index ((U t).drop (i + 1)) emptyL == -1 then -1 else Lib.index ((U t).drop (i + 1)) emptyL + 1 := by
        rw [hd]; rfl
      have hpre : emptyL.isPrefixOf ((U t).drop i) = true ↔ ((U t).drop i).take 4 = emptyL := by
        rw [List.isPrefixOf_iff_prefix, List.prefix_iff_eq_take]; exact eq_comm
      refine Ev.step (fun k => rfl) ?_
      simp only [usherref8_headEnd.l0, wrapZ (x := (i : Int) + 4) (y := ((i + 4 : Nat) : Int)) (by omega) (by omega), wrapN i (by omega)]
      by_cases h4 : i + 4 ≤ (U t).length
      · refine Ev.if_pos (by omega) (Ev.if_pos (by omega) (Ev.if_pos (by omega) ?_))
        have ex : (t.extract ((i : Int)).toNat (((i + 4 : Nat) : Int)).toNat).toList = ((U t).drop i).take 4 := by
          rw [toList_U, U_extract, Int.toNat_natCast, Int.toNat_natCast, List.drop_take]
          congr 1; omega
        rw [ex]
        by_cases hp : ((U t).drop i).take 4 = emptyL
        · rw [if_pos (hpre.2 hp)] at hstep
          rw [hstep, if_neg (by omega)]
          refine Ev.eq (Ev.if_pos hp (Ev.now _)) (by omega)
        · rw [if_neg (fun h => hp (hpre.1 h))] at hstep
          refine Ev.eq (Ev.if_neg hp (ih (i + 1) (by omega))) ?_
          rw [hstep]
          generalize Lib.index ((U t).drop (i + 1)) emptyL = z at *
          by_cases hm : z = -1
          · rw [hm]; rfl
          · have hb : (if (z == -1) = true then (-1 : Int) else z + 1) = z + 1 := by rw [beq_eq_false_iff_ne.2 hm]; rfl
            rw [hb, if_neg (by omega), if_neg (by omega)]; omega
      · refine Ev.eq (Ev.if_neg (by omega) (Ev.now _)) ?_
        have hroom : Lib.index ((U t).drop i) emptyL < 0 := by
          rcases Int.lt_or_le (Lib.index ((U t).drop i) emptyL) 0 with h | h
          · exact h
          · have := Lib.index_room _ _ h
            rw [List.length_drop] at this
            have e4 : emptyL.length = 4 := rfl
            omega
        rw [if_pos hroom]
  have := H (U t).length 0 (by omega)
  simp only [List.drop_zero] at this
  simp only [usherref8_headEnd.f]
  refine Ev.eq this ?_
  split
  · rfl
  · show ((0 : Nat) : Int) + _ + 4 = _; omega
/-! ### lines -/
/-- The lines of a head, read from the left. -/
def linC : List UInt8 → List UInt8 → List (List UInt8)
  | cur, [] => [cur]
  | cur, [a] => [cur ++ [a]]
  | cur, a :: b :: r => if a = 13 ∧ b = 10 then cur :: linC [] r else linC (cur ++ [a]) (b :: r)
theorem linC_nil (cur : List UInt8) : linC cur [] = [cur] := by rw [linC]
theorem linC_one (cur : List UInt8) (a : UInt8) : linC cur [a] = [cur ++ [a]] := by rw [linC]
theorem linC_cons (cur : List UInt8) (a b : UInt8) (r : List UInt8) : linC cur (a :: b :: r) = if a = 13 ∧ b = 10 then cur :: linC [] r else linC (cur ++ [a]) (b :: r) := by rw [linC]
theorem linC_line : ∀ (a cur r : List UInt8), (∀ b ∈ a, b ≠ 13) → linC cur (a ++ (crlf ++ r)) = (cur ++ a) :: linC [] r := by
  intro a
  induction a with
  | nil => intro cur r _; show linC cur (13 :: 10 :: r) = _; rw [linC_cons, if_pos ⟨rfl, rfl⟩, List.append_nil]
  | cons x a ih =>
    intro cur r h
    have hx : x ≠ 13 := h x List.mem_cons_self
    have := ih (cur ++ [x]) r (fun b hb => h b (List.mem_cons_of_mem _ hb))
    obtain ⟨y, m, hy⟩ : ∃ y m, a ++ (crlf ++ r) = y :: m := by
      cases a with
      | nil => exact ⟨13, 10 :: r, rfl⟩
      | cons y a => exact ⟨y, _, rfl⟩
    rw [List.cons_append, hy, linC_cons, if_neg (fun h => hx h.1), ← hy, this, List.append_assoc]; rfl
theorem linC_last : ∀ (a cur : List UInt8), (∀ b ∈ a, b ≠ 13) → linC cur a = [cur ++ a] := by
  intro a
  induction a with
  | nil => intro cur _; rw [linC_nil, List.append_nil]
  | cons x a ih =>
    intro cur h
    have hx : x ≠ 13 := h x List.mem_cons_self
    have := ih (cur ++ [x]) (fun b hb => h b (List.mem_cons_of_mem _ hb))
    cases a with
    | nil => rw [linC_one]
    | cons y a => rw [linC_cons, if_neg (fun h => hx h.1), this, List.append_assoc]; rfl
theorem linC_join : ∀ ls : List (List UInt8), ls ≠ [] → (∀ l ∈ ls, ∀ b ∈ l, b ≠ 13) → linC [] (joinL ls) = ls := by
  intro ls
  induction ls with
  | nil => intro h; exact absurd rfl h
  | cons a ls ih =>
    intro _ h
    cases ls with
    | nil => show linC [] a = [a]; rw [linC_last a [] (h a List.mem_cons_self)]; rfl
    | cons b ls =>
      rw [joinL_cons a (b :: ls) (by simp), linC_line a [] _ (h a List.mem_cons_self), ih (by simp) (fun l hl => h l (List.mem_cons_of_mem _ hl))]; rfl
theorem linC_len : ∀ (n : Nat) (l cur : List UInt8), l.length ≤ n → (linC cur l).length ≤ l.length + 1 ∧ lens (linC cur l) ≤ cur.length + l.length := by
  intro n
  induction n with
  | zero => intro l cur h; cases l with
    | nil => simp [linC_nil, linC_one, lens]
    | cons a l => simp at h
  | succ n ih =>
    intro l cur h
    match l, h with
    | [], _ => simp [linC_nil, linC_one, lens]
    | [a], _ => simp [linC_nil, linC_one, lens]
    | a :: b :: r, h =>
      simp only [List.length_cons] at h
      rw [linC_cons]
      split
      · have := ih r [] (by omega)
        simp only [lens, List.length_cons, List.length_nil, List.map_cons, List.sum_cons] at *
        omega
      · have := ih (b :: r) (cur ++ [a]) (by simp only [List.length_cons]; omega)
        simp only [List.length_cons, List.length_append, List.length_nil] at *
        omega
theorem lines8.ev (s : ByteArray) (hs : s.size ≤ 2147483648) : Ev (fun k => usherref8_lines.f k s) ((linC [] (U s)).map mk) := by
  have hz := size_U s
  have H : ∀ (d : Nat), (∀ (i f : Nat) (acc : List ByteArray), i + d = (U s).length → f ≤ i → acc.length ≤ i → Ev (fun k => usherref8_lines.l0 k s acc (f : Int) (i : Int)) (acc ++ (linC (((U s).take i).drop f) ((U s).drop i)).map mk)) ∧
      (∀ (i : Nat) (acc : List ByteArray), i + d = (U s).length → (∃ h : i < (U s).length, (U s)[i] = 10) → acc.length ≤ i → Ev (fun k => usherref8_lines.l0 k s acc ((i + 1 : Nat) : Int) (i : Int)) (acc ++ (linC [] ((U s).drop (i + 1))).map mk)) := by
    intro d
    induction d with
    | zero =>
      refine ⟨fun i f acc hi hf ha => ?_, fun i acc hi h _ => by obtain ⟨h, _⟩ := h; omega⟩
      refine Ev.step (fun k => rfl) ?_
      simp only [usherref8_lines.l0, wrapN i (by omega)]
      refine Ev.if_neg (by omega) (Ev.if_pos (by omega) (Ev.if_pos (by omega) (Ev.if_pos (by omega) ?_)))
      refine Ev.eq (Ev.now _) ?_
      have e1 : s.extract ((f : Int)).toNat s.size = mk ((U s).drop f) := U_inj (by rw [U_extract_end, U_mk, Int.toNat_natCast])
      rw [List.drop_eq_nil_of_le (i := i) (by omega), List.take_of_length_le (by omega), e1]
      rw [linC_nil]; rfl
    | succ d ih =>
      refine ⟨fun i f acc hi hf ha => ?_, fun i acc hi h ha => ?_⟩
      · have hlt : i < (U s).length := by omega
        have hd := List.drop_eq_getElem_cons hlt
        have htk : ((U s).take (i + 1)).drop f = ((U s).take i).drop f ++ [(U s)[i]] := by
          rw [List.take_succ_eq_append_getElem hlt, List.drop_append_of_le_length (by rw [List.length_take]; omega)]
        refine Ev.step (fun k => rfl) ?_
        simp only [usherref8_lines.l0, wrapN i (by omega), wrapZ (x := (i : Int) + 2) (y := ((i + 1 + 1 : Nat) : Int)) (by omega) (by omega)]
        by_cases h1 : i + 1 < (U s).length
        · have hd1 := List.drop_eq_getElem_cons h1
          have hn := (ih.1 (i + 1) f acc (by omega) (by omega) (by omega))
          rw [htk, hd1] at hn
          refine Ev.if_pos (by omega) (Ev.if_pos (by omega) (Ev.if_pos (by omega) ?_))
          simp only [bt_U s i hlt, bt_U s (i + 1) h1]
          rw [hd, hd1]
          by_cases h13 : (U s)[i] = 13
          · refine Ev.if_pos (by rw [h13]; rfl) (Ev.if_pos (by omega) ?_)
            by_cases h10 : (U s)[i + 1] = 10
            · refine Ev.if_pos (by rw [h10]; rfl) (Ev.if_pos (by omega) (Ev.if_pos (by omega) (Ev.if_pos (by omega) (Ev.if_pos (by omega) ?_))))
              have e1 : s.extract ((f : Int)).toNat ((i : Int)).toNat = mk (((U s).take i).drop f) := U_inj (by rw [U_extract, U_mk, Int.toNat_natCast, Int.toNat_natCast])
              have := ih.2 (i + 1) (acc ++ [s.extract ((f : Int)).toNat ((i : Int)).toNat]) (by omega) ⟨h1, h10⟩ (by simp; omega)
              refine Ev.eq this ?_
              rw [e1]
              have e2 : linC (((U s).take i).drop f) ((U s)[i] :: (U s)[i + 1] :: (U s).drop (i + 1 + 1)) = ((U s).take i).drop f :: linC [] ((U s).drop (i + 1 + 1)) := by
                rw [h13, h10, linC_cons, if_pos ⟨rfl, rfl⟩]
              rw [e2]; simp
            · refine Ev.if_neg (fun h => h10 (UInt8.toNat_inj.1 (by have : ((10 : UInt8).toNat : Int) = 10 := rfl; omega))) ?_
              refine Ev.eq hn ?_
              have e2 : linC (((U s).take i).drop f) ((U s)[i] :: (U s)[i + 1] :: (U s).drop (i + 1 + 1)) = linC (((U s).take i).drop f ++ [(U s)[i]]) ((U s)[i + 1] :: (U s).drop (i + 1 + 1)) := by
                rw [linC_cons, if_neg (fun h => h10 h.2)]
              rw [e2]
          · refine Ev.if_neg (fun h => h13 (UInt8.toNat_inj.1 (by have : ((13 : UInt8).toNat : Int) = 13 := rfl; omega))) ?_
            refine Ev.eq hn ?_
            have e2 : linC (((U s).take i).drop f) ((U s)[i] :: (U s)[i + 1] :: (U s).drop (i + 1 + 1)) = linC (((U s).take i).drop f ++ [(U s)[i]]) ((U s)[i + 1] :: (U s).drop (i + 1 + 1)) := by
              rw [linC_cons, if_neg (fun h => h13 h.1)]
            rw [e2]
        · refine Ev.if_neg (by omega) (Ev.if_pos (by omega) (Ev.if_pos (by omega) (Ev.if_pos (by omega) ?_)))
          refine Ev.eq (Ev.now _) ?_
          have e1 : s.extract ((f : Int)).toNat s.size = mk ((U s).drop f) := U_inj (by rw [U_extract_end, U_mk, Int.toNat_natCast])
          rw [hd, List.drop_eq_nil_of_le (i := i + 1) (by omega), e1]
          have e2 : (U s).drop f = ((U s).take i).drop f ++ [(U s)[i]] := by
            rw [← htk, List.take_of_length_le (by omega)]
          rw [e2, linC_one]; rfl
      · obtain ⟨hlt, h10⟩ := h
        refine Ev.step (fun k => rfl) ?_
        simp only [usherref8_lines.l0, wrapN i (by omega)]
        by_cases h1 : i + 1 < (U s).length
        · refine Ev.if_pos (by omega) (Ev.if_pos (by omega) (Ev.if_pos (by omega) ?_))
          simp only [bt_U s i hlt]
          refine Ev.if_neg (by rw [h10]; decide) ?_
          have := ih.1 (i + 1) (i + 1) acc (by omega) (by omega) (by omega)
          have e0 : ((U s).take (i + 1)).drop (i + 1) = [] := List.drop_eq_nil_of_le (by rw [List.length_take]; omega)
          rwa [e0] at this
        · refine Ev.if_neg (by omega) (Ev.if_pos (by omega) (Ev.if_pos (by omega) (Ev.if_pos (by omega) ?_)))
          refine Ev.eq (Ev.now _) ?_
          have e1 : s.extract (((i + 1 : Nat) : Int)).toNat s.size = mk ((U s).drop (i + 1)) := U_inj (by rw [U_extract_end, U_mk, Int.toNat_natCast])
          rw [e1, List.drop_eq_nil_of_le (by omega), linC_nil]; rfl
  have := (H (U s).length).1 0 0 [] (by omega) (by omega) (by simp)
  simpa [usherref8_lines.f] using this
/-! ### numbers, fields -/
def numR (l : List UInt8) : Int := if l = [] ∨ 7 < l.length ∨ l.all digU = false then -1 else (valD l 0 : Int)
theorem number8.ev (s : ByteArray) (hs : s.size ≤ 2147483648) : Ev (fun k => usherref8_number.f k s) (numR (U s)) := by
  have hz := size_U s
  have hj0 : Ev (fun k => usherref8_number.j0 k s true) (-1) := Ev.step (f := fun _ => some (-1)) (fun k => by rw [usherref8_number.j0, if_pos rfl]) (Ev.now _)
  simp only [usherref8_number.f]
  unfold numR
  by_cases h0 : U s = []
  · rw [if_pos (Or.inl h0)]
    have : (U s).length = 0 := by rw [h0]; rfl
    exact Ev.if_pos (by omega) hj0
  · have hp : 0 < (U s).length := List.length_pos_iff.2 h0
    refine Ev.if_neg (by omega) ?_
    by_cases h7 : 7 < (U s).length
    · rw [if_pos (Or.inr (Or.inl h7)), decide_eq_true (by omega)]
      exact hj0
    · rw [decide_eq_false (by omega)]
      refine Ev.step (f := fun k => usherref8_number.l0 k s 0 0) (fun k => by rw [usherref8_number.j0, if_neg (by simp)]) ?_
      have H : ∀ (d i n : Nat), i + d = (U s).length → n < 10 ^ i → Ev (fun k => usherref8_number.l0 k s (n : Int) (i : Int)) (if ((U s).drop i).all digU = false then -1 else (valD ((U s).drop i) n : Int)) := by
        intro d
        induction d with
        | zero =>
          intro i n hi _
          refine Ev.step (f := fun k => some (n : Int)) (fun k => by rw [usherref8_number.l0, if_neg (by omega)]) ?_
          rw [List.drop_eq_nil_of_le (by omega)]
          exact Ev.now _
        | succ d ih =>
          intro i n hi hn
          have h : i < (U s).length := by omega
          have hp : (10 : Nat) ^ i ≤ 10 ^ 6 := Nat.pow_le_pow_right (by omega) (by omega)
          have hp2 : (10 : Nat) ^ (i + 1) = 10 ^ i * 10 := Nat.pow_succ _ _
          refine Ev.step (fun k => rfl) ?_
          simp only [usherref8_number.l0, wrapN i (by omega)]
          refine Ev.if_pos (by omega) (Ev.if_pos (by omega) ?_)
          rw [List.drop_eq_getElem_cons h]
          simp only [bt_U s i h]
          generalize (U s)[i] = b at *
          have hb := b.toNat_lt
          have e48 : (48 ≤ b) ↔ 48 ≤ b.toNat := UInt8.le_iff_toNat_le
          have e57 : (b ≤ 57) ↔ b.toNat ≤ 57 := UInt8.le_iff_toNat_le
          by_cases h1 : b.toNat < 48
          · have : digU b = false := by unfold digU; rw [decide_eq_false (by rw [e48]; omega)]; rfl
            simp only [List.all_cons, this, Bool.false_and, if_true]
            exact Ev.if_pos (by omega) (Ev.now _)
          · refine Ev.if_neg (by omega) ?_
            by_cases h2 : 57 < b.toNat
            · have : digU b = false := by unfold digU; rw [decide_eq_false (p := b ≤ 57) (by rw [e57]; omega)]; simp
              simp only [List.all_cons, this, Bool.false_and, if_true]
              exact Ev.if_pos (by omega) (Ev.now _)
            · refine Ev.if_neg (by omega) ?_
              have hg : digU b = true := by unfold digU; rw [decide_eq_true (e48.2 (by omega)), decide_eq_true (e57.2 (by omega))]; rfl
              have e1 : wrap64 (wrap64 (10 * (n : Int)) + ((b.toNat : Int) - 48) % 256) = ((10 * n + (b.toNat - 48) : Nat) : Int) := by
                rw [wrap64_of (x := 10 * (n : Int)) (by omega)]
                exact wrapZ (by omega) (by omega)
              rw [e1]
              clear e1
              have := ih (i + 1) (10 * n + (b.toNat - 48)) (by omega) (by rw [hp2]; omega)
              simp only [List.all_cons, hg, Bool.true_and]
              exact this
      have := H (U s).length 0 0 (by omega) (by decide)
      simp only [List.drop_zero] at this
      refine Ev.eq this ?_
      by_cases hd : (U s).all digU = false
      · rw [if_pos hd, if_pos (Or.inr (Or.inr hd))]
      · rw [if_neg hd, if_neg (fun h => h.elim h0 (fun h => h.elim h7 hd))]
def fieldR (l : List UInt8) : PU := if (58 : UInt8) ∈ l then (l.takeWhile (· != 58), l.drop ((l.takeWhile (· != 58)).length + 2)) else (l, [])
theorem fieldR_colon (a r : List UInt8) (h : ∀ b ∈ a, b ≠ 58) : fieldR (a ++ (58 :: r)) = (a, r.drop 1) := by
  unfold fieldR
  have e : (a ++ 58 :: r).takeWhile (· != 58) = a := by
    rw [List.takeWhile_append_of_pos (fun b hb => by simpa using h b hb)]
    simp
  rw [if_pos (by simp), e]
  congr 1
  rw [show a ++ 58 :: r = (a ++ [58]) ++ r by simp, List.drop_append]
  simp
theorem fieldR_none (l : List UInt8) (h : ∀ b ∈ l, b ≠ 58) : fieldR l = (l, []) := by
  unfold fieldR
  rw [if_neg (fun hm => h _ hm rfl)]
theorem field8.ev (s : ByteArray) (hs : s.size ≤ 2147483648) : Ev (fun k => usherref8_field.f k s) (mk (fieldR (U s)).1, mk (fieldR (U s)).2) := by
  have hz := size_U s
  have H : ∀ (d i : Nat), i + d = (U s).length → (∀ b ∈ (U s).take i, b ≠ 58) → Ev (fun k => usherref8_field.l0 k s (i : Int)) (mk (fieldR (U s)).1, mk (fieldR (U s)).2) := by
    intro d
    induction d with
    | zero =>
      intro i hi hb
      refine Ev.step (f := fun k => some (s, (⟨#[]⟩ : ByteArray))) (fun k => by rw [usherref8_field.l0, if_neg (by omega)]) ?_
      rw [List.take_of_length_le (by omega)] at hb
      rw [fieldR_none _ hb, mk_U]
      exact Ev.now _
    | succ d ih =>
      intro i hi hb
      have h : i < (U s).length := by omega
      refine Ev.step (fun k => rfl) ?_
      simp only [usherref8_field.l0, wrapN i (by omega), wrapZ (x := (i : Int) + 2) (y := ((i + 2 : Nat) : Int)) (by omega) (by omega)]
      refine Ev.if_pos (by omega) (Ev.if_pos (by omega) ?_)
      simp only [bt_U s i h]
      by_cases h58 : (U s)[i] = 58
      · refine Ev.if_pos (by rw [h58]; rfl) ?_
        have hsp : U s = (U s).take i ++ (58 :: (U s).drop (i + 1)) := by
          rw [← h58, ← List.drop_eq_getElem_cons h, List.take_append_drop]
        have hF : fieldR (U s) = ((U s).take i, (U s).drop (i + 2)) := by
          rw [hsp, fieldR_colon _ _ hb, ← hsp, List.drop_drop]
        rw [hF]
        have e1 : s.extract 0 ((i : Int)).toNat = mk ((U s).take i) := U_inj (by rw [U_extract, U_mk, Int.toNat_natCast, List.drop_zero])
        have e2 : s.extract (((i + 2 : Nat) : Int)).toNat s.size = mk ((U s).drop (i + 2)) := U_inj (by rw [U_extract_end, U_mk, Int.toNat_natCast])
        rw [e1, e2]
        by_cases hgt : (U s).length < i + 2
        · refine Ev.if_pos (by omega) (Ev.if_pos (by omega) ?_)
          rw [List.drop_eq_nil_of_le (by omega)]
          exact Ev.now _
        · exact Ev.if_neg (by omega) (Ev.if_pos (by omega) (Ev.if_pos (by omega) (Ev.if_pos (by omega) (Ev.now _))))
      · refine Ev.if_neg (fun e => h58 (UInt8.toNat_inj.1 (by have : ((58 : UInt8).toNat : Int) = 58 := rfl; omega))) ?_
        refine ih (i + 1) (by omega) ?_
        rw [List.take_succ_eq_append_getElem h]
        intro b hm
        rcases List.mem_append.1 hm with hm | hm
        · exact hb b hm
        · rw [List.mem_singleton] at hm; rw [hm]; exact h58
  have := H (U s).length 0 (by omega) (by simp)
  simp only [usherref8_field.f]
  exact this
end Go.Proofs.YtdlfdmbaejhaaaaDoor.Q
