/- What reply.Render answers, as a plain function of the bytes. Conditions: the texts that go in have together at most 2^46 bytes. -/
import Derived.Test.YtdlfdmbaejhaaaaDoorQ5
import Derived.Test.YtdlfdmbaejhaaaaDoorPMay
set_option linter.unusedVariables false
set_option linter.unusedSimpArgs false
namespace Go.Proofs.YtdlfdmbaejhaaaaDoor.Q
open Go.RowKit Go.Proofs.YtdlfdmbaejhaaaaDoorW.PrintWords Go.Proofs.YtdlfdmbaejhaaaaDoorW.PrintLast Go.Proofs.YtdlfdmbaejhaaaaDoorW.PrintMore
/-- A field, in bytes. -/
abbrev PU := List UInt8 × List UInt8
def pU (x : S26) : PU := (U x.f0, U x.f1)
/-- A field's line. -/
def fieldU (p : PU) : List UInt8 := p.1 ++ ([58, 32] ++ p.2)
def connU (c : Bool) : List UInt8 := if c = true then [67, 111, 110, 110, 101, 99, 116, 105, 111, 110, 58, 32, 99, 108, 111, 115, 101] else [67, 111, 110, 110, 101, 99, 116, 105, 111, 110, 58, 32, 107, 101, 101, 112, 45, 97, 108, 105, 118, 101]
/-- Lines, each with its end. -/
def linesU : List (List UInt8) → List UInt8
  | [] => []
  | a :: r => a ++ (crlf ++ linesU r)
theorem linesU_join : ∀ (ls : List (List UInt8)), ls ≠ [] → linesU ls = joinL ls ++ crlf
  | [], h => absurd rfl h
  | [a], _ => by simp [linesU, joinL]
  | a :: b :: r, _ => by
    rw [linesU, linesU_join (b :: r) (by simp), joinL_cons a (b :: r) (by simp)]
    simp only [List.append_assoc]
/-- The last two lines of a head. -/
def tailLs (n : Nat) (c : Bool) : List (List UInt8) := [clenU ++ Lib.itoa (n : Int), connU c]
def headLs (p : Int × List UInt8) (fs : List PU) (n : Nat) (c : Bool) : List (List UInt8) := stU p :: (fs.map fieldU ++ tailLs n c)
def mayP (p : PU) : Bool := mayU p.1 p.2
def bulkP (l : List PU) : Nat := (l.map fun p => p.1.length + p.2.length + 4).sum
def phrOf (ps : List (Int × List UInt8)) (s : Int) : Option (Int × List UInt8) := match ps with
  | [] => none
  | p :: r => if p.1 = s then some p else phrOf r s
def textU (p : Int × List UInt8) (fs : List PU) (b : List UInt8) (c bare : Bool) : List UInt8 := joinL (headLs p fs b.length c) ++ ([13, 10, 13, 10] ++ (if bare = true then [] else b))
/-- What Render answers. -/
def renderU (s : Int) (fs : List PU) (b : List UInt8) (c bare : Bool) : List UInt8 × Option Int :=
  if 64 < fs.length ∨ 1048576 < b.length then ([], some 3) else match phrOf phrasesL s with
  | none => ([], some 1)
  | some p => if fs.all mayP = true then (textU p fs b c bare, none) else ([], some 1)
theorem phrOf_mem : ∀ (ps : List (Int × List UInt8)) (s : Int) (p : Int × List UInt8), phrOf ps s = some p → p ∈ ps ∧ p.1 = s
  | [], s, p, h => by cases h
  | q :: r, s, p, h => by
    unfold phrOf at h
    by_cases e : q.1 = s
    · rw [if_pos e] at h; cases h; exact ⟨List.mem_cons_self, e⟩
    · rw [if_neg e] at h
      have := phrOf_mem r s p h
      exact ⟨List.mem_cons_of_mem _ this.1, this.2⟩
theorem phraseOf_some : ∀ (ps : List (Int × List UInt8)) (s : Int), phraseOf ps s = match phrOf ps s with | none => mk [] | some p => mk p.2
  | [], s => rfl
  | q :: r, s => by
    unfold phrOf phraseOf
    by_cases e : q.1 = s
    · rw [if_pos e, if_pos e]; rfl
    · rw [if_neg e, if_neg e]; exact phraseOf_some r s
theorem phr_props {p : Int × List UInt8} (h : p ∈ phrasesL) : 200 ≤ p.1 ∧ p.1 ≤ 505 ∧ (Lib.itoa p.1).length = 3 ∧ p.2.length ≤ 40 ∧ p.2 ≠ [] ∧ ∀ b ∈ p.2, b ≠ 13 := by
  have := List.all_eq_true.1 phr_small p h
  simp only [Bool.and_eq_true, decide_eq_true_eq, Bool.not_eq_true', List.isEmpty_eq_false_iff, List.all_eq_true, bne_iff_ne] at this
  exact ⟨this.1.1.1.1.1, this.1.1.1.1.2, this.1.1.1.2, this.1.1.2, this.1.2, this.2⟩
theorem nDig_le (k : Nat) : ∀ m : Nat, m < 10 ^ (k + 1) → Lib.nDigits m ≤ k + 1 := by
  induction k with
  | zero => intro m hm; rw [Lib.nDigits_small (by simpa using hm)]; omega
  | succ k ih =>
    intro m hm
    by_cases hs : m < 10
    · rw [Lib.nDigits_small hs]; omega
    · rw [Lib.nDigits_big hs]
      have := ih (m / 10) (by rw [Nat.pow_succ] at hm; omega)
      omega
theorem itoa_nat (n : Nat) : Lib.itoa (n : Int) = Lib.decDigits n := by unfold Lib.itoa; rw [if_neg (by omega)]; simp
theorem itoa_len (n : Nat) (h : n < 10000000) : (Lib.itoa (n : Int)).length ≤ 7 := by
  rw [itoa_nat, Lib.decDigits_length]
  exact nDig_le 6 n (by omega)
theorem render_l0.ev (bare : Bool) (fs : List S26) (s : Int) (body : ByteArray) (c : Bool) (acc : List UInt8) (hb : body.size ≤ 1048576) (hf : fs.length ≤ 64) (hz : acc.length + bulkP (fs.map pU) ≤ 70368744177664) :
    Ev (fun k => reply_Render.l0 k bare (nat acc) fs (fs.length : Int) 0 s fs body c) (if (fs.map pU).all mayP = true then (mk (acc ++ (linesU ((fs.map pU).map fieldU ++ tailLs body.size c) ++ (crlf ++ (if bare = true then [] else U body)))), none) else (⟨#[]⟩, some 1)) := by
  have H := Ev.loop (F := fun k (x : Nat × List UInt8) => reply_Render.l0 k bare (nat x.2) fs (fs.length : Int) (x.1 : Int) s fs body c) (r := fun x => if ((fs.drop x.1).map pU).all mayP = true then (mk (x.2 ++ (linesU (((fs.drop x.1).map pU).map fieldU ++ tailLs body.size c) ++ (crlf ++ (if bare = true then [] else U body)))), none) else (⟨#[]⟩, some 1)) (fun x => x.1 ≤ fs.length ∧ x.2.length + bulkP ((fs.drop x.1).map pU) ≤ 70368744177664) (fun x => fs.length - x.1) (by
    rintro ⟨i, acc⟩ ⟨hi, hn⟩ ih
    dsimp only at hi hn
    simp only [reply_Render.l0]
    by_cases h : i < fs.length
    · have hd : fs.drop i = fs[i] :: fs.drop (i + 1) := List.drop_eq_getElem_cons h
      have hr : rd_T26 fs (i : Int) = fs[i] := by unfold rd_T26; simp [List.getD_eq_getElem?_getD, List.getElem?_eq_getElem h]
      rw [hd] at hn ⊢
      simp only [hr]
      generalize fs[i] = x at *
      have hs0 := size_U x.f0
      have hs1 := size_U x.f1
      have hbk : bulkP ((x :: fs.drop (i + 1)).map pU) = (U x.f0).length + (U x.f1).length + 4 + bulkP ((fs.drop (i + 1)).map pU) := rfl
      rw [hbk] at hn
      refine Ev.if_pos (by omega) (Ev.if_pos (by omega) (Ev.if_pos (by omega) ((reply_may.ev x.f0 x.f1 (by omega) (by omega)).bind ?_)))
      have hall : ((x :: fs.drop (i + 1)).map pU).all mayP = (mayU (U x.f0) (U x.f1) && ((fs.drop (i + 1)).map pU).all mayP) := rfl
      rw [hall]
      by_cases hm : mayU (U x.f0) (U x.f1) = true
      · refine Ev.if_pos hm ?_
        have z1 : (x.f0 ++ (⟨#[58, 32]⟩ : ByteArray)).size = x.f0.size + 2 := by rw [ByteArray.size_append]; rfl
        have z2 : ((x.f0 ++ (⟨#[58, 32]⟩ : ByteArray)) ++ x.f1).size = x.f0.size + 2 + x.f1.size := by rw [ByteArray.size_append, z1]
        have z3 : (((x.f0 ++ (⟨#[58, 32]⟩ : ByteArray)) ++ x.f1) ++ (⟨#[13, 10]⟩ : ByteArray)).size = x.f0.size + 2 + x.f1.size + 2 := by rw [ByteArray.size_append, z2]; rfl
        refine Ev.if_pos (by omega) (Ev.if_pos (by rw [z1]; omega) (Ev.if_pos (by rw [z2]; omega) (Ev.if_pos (by rw [z3, nat_length]; omega) ?_)))
        rw [wrap64_of (by omega)]
        have e : nat acc ++ bytesOf (((x.f0 ++ (⟨#[58, 32]⟩ : ByteArray)) ++ x.f1) ++ (⟨#[13, 10]⟩ : ByteArray)) = nat (acc ++ (fieldU (pU x) ++ crlf)) := by
          rw [bytesOf_U, nat_app, U_app, U_app, U_app]
          show _ = nat acc ++ nat ((U x.f0 ++ ([58, 32] ++ U x.f1)) ++ crlf)
          show nat acc ++ nat (((U x.f0 ++ [58, 32]) ++ U x.f1) ++ crlf) = _
          simp only [List.append_assoc]
        rw [e]
        have := ih (i + 1, acc ++ (fieldU (pU x) ++ crlf)) ⟨by dsimp only; omega, by
          dsimp only
          have : (acc ++ (fieldU (pU x) ++ crlf)).length = acc.length + ((U x.f0).length + (U x.f1).length + 4) := by simp [fieldU, pU, crlf]; omega
          omega⟩ (by dsimp only; omega)
        dsimp only at this
        rw [hm, Bool.true_and]
        refine Ev.eq this ?_
        simp only [List.map_cons, List.cons_append, linesU, List.append_assoc]
      · refine Ev.if_neg hm ?_
        rw [Bool.not_eq_true] at hm
        rw [hm, Bool.false_and, if_neg (by simp)]
        exact Ev.now _
    · refine Ev.if_neg (by omega) ?_
      have hz : (fs.drop i) = [] := List.drop_eq_nil_of_le (by omega)
      rw [hz] at hn ⊢
      have hbz := size_U body
      have hn : acc.length ≤ 70368744177664 := hn
      simp only [itoa_some (body.size : Int) (by omega), Option.bind_some]
      have hl := itoa_len body.size (by omega)
      have z0 : (mk (Lib.itoa (body.size : Int))).size = (Lib.itoa (body.size : Int)).length := mk_size _
      have z1 : ((⟨#[67, 111, 110, 116, 101, 110, 116, 45, 76, 101, 110, 103, 116, 104, 58, 32]⟩ : ByteArray) ++ mk (Lib.itoa (body.size : Int))).size = 16 + (Lib.itoa (body.size : Int)).length := by rw [ByteArray.size_append, z0]; rfl
      have z2 : (((⟨#[67, 111, 110, 116, 101, 110, 116, 45, 76, 101, 110, 103, 116, 104, 58, 32]⟩ : ByteArray) ++ mk (Lib.itoa (body.size : Int))) ++ (⟨#[13, 10]⟩ : ByteArray)).size = 18 + (Lib.itoa (body.size : Int)).length := by rw [ByteArray.size_append, z1]; show _ + 2 = _; omega
      refine Ev.if_pos (by rw [z0]; omega) (Ev.if_pos (by rw [z1]; omega) (Ev.if_pos (by rw [z2, nat_length]; omega) ?_))
      have e : nat acc ++ bytesOf (((⟨#[67, 111, 110, 116, 101, 110, 116, 45, 76, 101, 110, 103, 116, 104, 58, 32]⟩ : ByteArray) ++ mk (Lib.itoa (body.size : Int))) ++ (⟨#[13, 10]⟩ : ByteArray)) = nat (acc ++ ((clenU ++ Lib.itoa (body.size : Int)) ++ crlf)) := by
        rw [bytesOf_U, nat_app, U_app, U_app, U_mk]; rfl
      simp only [e]
      have z3 : (acc ++ ((clenU ++ Lib.itoa (body.size : Int)) ++ crlf)).length = acc.length + 18 + (Lib.itoa (body.size : Int)).length := by simp [clenU, crlf]; omega
      have hj : ∀ a : List UInt8, a.length ≤ 70368744178000 → Ev (fun k => reply_Render.j2 k bare (nat a) s fs body c) (mk (a ++ (crlf ++ (if bare = true then [] else U body))), none) := fun a ha => by
        refine Ev.step (f := fun k => _) (fun k => by rw [reply_Render.j2]) ?_
        refine Ev.if_pos (by rw [nat_length]; omega) ?_
        have e : nat a ++ bytesOf (⟨#[13, 10]⟩ : ByteArray) = nat (a ++ crlf) := by rw [bytesOf_U, nat_app]; rfl
        simp only [Option.bind_some, e]
        cases bare
        · refine Ev.if_neg (by simp) (Ev.if_pos (by rw [nat_length, List.length_append]; show a.length + 2 + _ < _; omega) ?_)
          have e2 : nat (a ++ crlf) ++ bytesOf body = nat (a ++ (crlf ++ U body)) := by rw [bytesOf_U, ← nat_app, List.append_assoc]
          rw [e2, strOf_nat]; exact Ev.now _
        · refine Ev.if_pos rfl ?_
          rw [strOf_nat]
          refine Ev.eq (Ev.now _) ?_
          simp
      show Ev _ (mk (acc ++ (linesU (tailLs body.size c) ++ (crlf ++ (if bare = true then [] else U body)))), none)
      cases c
      · refine Ev.if_neg (by simp) (Ev.if_pos (by rw [nat_length, z3]; omega) ?_)
        have e3 : nat (acc ++ ((clenU ++ Lib.itoa (body.size : Int)) ++ crlf)) ++ bytesOf (⟨#[67, 111, 110, 110, 101, 99, 116, 105, 111, 110, 58, 32, 107, 101, 101, 112, 45, 97, 108, 105, 118, 101, 13, 10]⟩ : ByteArray) = nat (acc ++ linesU (tailLs body.size false)) := by
          rw [bytesOf_U, ← nat_app]
          refine congrArg nat ?_
          show _ = acc ++ ((clenU ++ Lib.itoa (body.size : Int)) ++ (crlf ++ (connU false ++ (crlf ++ []))))
          simp only [List.append_assoc]; rfl
        rw [e3]
        refine Ev.eq (hj _ (by simp [linesU, tailLs, clenU, crlf, connU]; omega)) ?_
        simp only [List.append_assoc]
      · refine Ev.if_pos rfl (Ev.if_pos (by rw [nat_length, z3]; omega) ?_)
        have e3 : nat (acc ++ ((clenU ++ Lib.itoa (body.size : Int)) ++ crlf)) ++ bytesOf (⟨#[67, 111, 110, 110, 101, 99, 116, 105, 111, 110, 58, 32, 99, 108, 111, 115, 101, 13, 10]⟩ : ByteArray) = nat (acc ++ linesU (tailLs body.size true)) := by
          rw [bytesOf_U, ← nat_app]
          refine congrArg nat ?_
          show _ = acc ++ ((clenU ++ Lib.itoa (body.size : Int)) ++ (crlf ++ (connU true ++ (crlf ++ []))))
          simp only [List.append_assoc]; rfl
        rw [e3]
        refine Ev.eq (hj _ (by simp [linesU, tailLs, clenU, crlf, connU]; omega)) ?_
        simp only [List.append_assoc]) (0, acc) ⟨by dsimp only; omega, hz⟩
  simpa using H
theorem reply_Render.ev (s : Int) (fs : List S26) (body : ByteArray) (c bare : Bool) (hz : bulkP (fs.map pU) ≤ 35184372088832) :
    Ev (fun k => reply_Render.f k s fs body c bare) (mk (renderU s (fs.map pU) (U body) c bare).1, (renderU s (fs.map pU) (U body) c bare).2) := by
  have hbz := size_U body
  have hj : ∀ b : Bool, (b = false → fs.length ≤ 64 ∧ body.size ≤ 1048576) → Ev (fun k => reply_Render.j0 k bare b s fs body c) (if b = true then (mk [], some 3) else match phrOf phrasesL s with
      | none => (mk [], some 1)
      | some p => if (fs.map pU).all mayP = true then (mk (textU p (fs.map pU) (U body) c bare), none) else (mk [], some 1)) := fun b hb => by
    refine Ev.step (f := fun k => _) (fun k => by rw [reply_Render.j0]) ?_
    cases b
    · obtain ⟨h64, hbd⟩ := hb rfl
      refine Ev.if_neg (by simp) ?_
      rw [if_neg (by simp)]
      simp only [reply_Reason.f, Option.bind_some, phraseOf_some]
      cases hp : phrOf phrasesL s with
      | none => exact Ev.if_pos (by rw [toList_U, U_mk]) (Ev.now _)
      | some p =>
        obtain ⟨hm, rfl⟩ := phrOf_mem _ _ _ hp
        obtain ⟨ha, hb, hc, hd, he, _⟩ := phr_props hm
        dsimp only
        refine Ev.if_neg (by rw [toList_U, U_mk]; exact he) ?_
        simp only [itoa_some p.1 (by omega), Option.bind_some]
        have e0 : (mk (Lib.itoa p.1)).size = 3 := by rw [mk_size, hc]
        have e1 : ((⟨#[72, 84, 84, 80, 47, 49, 46, 49, 32]⟩ : ByteArray) ++ mk (Lib.itoa p.1)).size = 12 := by rw [ByteArray.size_append, e0]; rfl
        have e2 : (((⟨#[72, 84, 84, 80, 47, 49, 46, 49, 32]⟩ : ByteArray) ++ mk (Lib.itoa p.1)) ++ (⟨#[32]⟩ : ByteArray)).size = 13 := by rw [ByteArray.size_append, e1]; rfl
        have e3 : ((((⟨#[72, 84, 84, 80, 47, 49, 46, 49, 32]⟩ : ByteArray) ++ mk (Lib.itoa p.1)) ++ (⟨#[32]⟩ : ByteArray)) ++ mk p.2).size = 13 + p.2.length := by rw [ByteArray.size_append, e2, mk_size]
        have e4 : (((((⟨#[72, 84, 84, 80, 47, 49, 46, 49, 32]⟩ : ByteArray) ++ mk (Lib.itoa p.1)) ++ (⟨#[32]⟩ : ByteArray)) ++ mk p.2) ++ (⟨#[13, 10]⟩ : ByteArray)).size = 15 + p.2.length := by rw [ByteArray.size_append, e3]; show _ + 2 = _; omega
        refine Ev.if_pos (by rw [e0]; omega) (Ev.if_pos (by rw [e1]; omega) (Ev.if_pos (by rw [e2, mk_size]; omega) (Ev.if_pos (by rw [e3]; omega) (Ev.if_pos (by rw [e4]; simp only [List.length_nil]; omega) ?_))))
        have e5 : ([] : List Int) ++ bytesOf (((((⟨#[72, 84, 84, 80, 47, 49, 46, 49, 32]⟩ : ByteArray) ++ mk (Lib.itoa p.1)) ++ (⟨#[32]⟩ : ByteArray)) ++ mk p.2) ++ (⟨#[13, 10]⟩ : ByteArray)) = nat (stU p ++ crlf) := by
          rw [List.nil_append, bytesOf_U, U_app, U_app, U_app, U_app, U_mk, U_mk]
          show nat (((([72, 84, 84, 80, 47, 49, 46, 49, 32] ++ Lib.itoa p.1) ++ [32]) ++ p.2) ++ crlf) = _
          unfold stU; simp only [List.append_assoc]
        rw [e5]
        refine Ev.eq (render_l0.ev bare fs p.1 body c (stU p ++ crlf) hbd h64 (by
          have : (stU p ++ crlf).length = 15 + p.2.length := by simp [stU, crlf, hc]; omega
          omega)) ?_
        by_cases hall : (fs.map pU).all mayP = true
        · rw [if_pos hall, if_pos hall]
          refine congrArg (fun t => (mk t, none)) ?_
          unfold textU
          have hj := linesU_join (headLs p (fs.map pU) (U body).length c) (by simp [headLs])
          rw [← hbz] at hj ⊢
          have hl : linesU (headLs p (fs.map pU) body.size c) = stU p ++ (crlf ++ linesU ((fs.map pU).map fieldU ++ tailLs body.size c)) := rfl
          rw [hl] at hj
          rw [show ([13, 10, 13, 10] : List UInt8) = crlf ++ crlf from rfl]
          simp only [List.append_assoc] at hj ⊢
          rw [← List.append_assoc (joinL _), ← hj]
          simp only [List.append_assoc]
        · rw [if_neg hall, if_neg hall]; rfl
    · exact Ev.if_pos rfl (Ev.now _)
  simp only [reply_Render.f]
  unfold renderU
  rw [List.length_map]
  by_cases h64 : 64 < fs.length
  · rw [if_pos (.inl h64)]
    exact Ev.if_pos (by omega) (by simpa using hj true (by simp))
  · refine Ev.if_neg (by omega) ?_
    by_cases hb : 1048576 < (U body).length
    · rw [if_pos (.inr hb)]
      rw [decide_eq_true (p := (body.size : Int) > 1048576) (by omega)]
      simpa using hj true (by simp)
    · rw [if_neg (fun h => h.elim h64 hb)]
      rw [decide_eq_false (p := (body.size : Int) > 1048576) (by omega)]
      have := hj false (fun _ => by omega)
      rw [if_neg (by simp)] at this
      refine Ev.eq this ?_
      cases phrOf phrasesL s with
      | none => rfl
      | some p => dsimp only; split <;> rfl
end Go.Proofs.YtdlfdmbaejhaaaaDoor.Q
