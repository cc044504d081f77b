/- What reply.may, reply.status and reply.size answer, as plain functions of the bytes. Conditions: a text has at most 140737488351232 bytes. -/
import Derived.Test.YtdlfdmbaejhaaaaDoorQ3
import Derived.Test.YtdlfdmbaejhaaaaDoorQ4
import Derived.Test.YtdlfdmbaejhaaaaDoorQ6
import Derived.Test.YtdlfdmbaejhaaaaDoorPGram
import Derived.Test.YtdlfdmbaejhaaaaDoorLines
set_option linter.unusedVariables false
set_option linter.unusedSimpArgs false
namespace Go.Proofs.YtdlfdmbaejhaaaaDoor.Q
open Go.RowKit Go.Proofs.YtdlfdmbaejhaaaaDoorW.PrintWords Go.Proofs.YtdlfdmbaejhaaaaDoorW.PrintLast Go.Proofs.YtdlfdmbaejhaaaaDoorW.PrintMore
/-- With small letters. -/
def lowU (l : List UInt8) : List UInt8 := l.map fun b => if 65 ≤ b ∧ b ≤ 90 then b + 32 else b
theorem lowI_at : ∀ c : Fin 256, lowI (c.val : Int) = ((((fun b : UInt8 => if 65 ≤ b ∧ b ≤ 90 then b + 32 else b) (UInt8.ofNat c.val)).toNat : Nat) : Int) := by decide +kernel
theorem lowI_U (b : UInt8) : lowI (b.toNat : Int) = (((if 65 ≤ b ∧ b ≤ 90 then b + 32 else b : UInt8).toNat : Nat) : Int) := by
  have := lowI_at ⟨b.toNat, b.toNat_lt⟩
  simpa using this
theorem low_nat (l : List UInt8) : (nat l).map lowI = nat (lowU l) := by
  unfold nat lowU
  rw [List.map_map, List.map_map]
  exact List.map_congr_left fun b _ => lowI_U b
theorem lower_some (s : ByteArray) (hs : s.size ≤ 140737488351232) : reply_lower.f s = some (mk (lowU (U s))) := by
  unfold reply_lower.f
  rw [if_pos hs, bytesOf_U, low_nat, strOf_nat]
def hasB (k : Int) (b : UInt8) : Bool := has k (b.toNat : Int)
theorem all_nat (k : Int) (l : List UInt8) : (nat l).all (has k) = l.all (hasB k) := by
  unfold nat; rw [List.all_map]; rfl
def tokU (l : List UInt8) : Bool := !l.isEmpty && l.all (hasB 1)
def valU (l : List UInt8) : Bool := if l = [] then true else l.all (hasB 4) && !hasB 8 (l.headD 0) && !hasB 8 (l.getLastD 0)
theorem tok_U (s : ByteArray) : (!(bytesOf s).isEmpty && (bytesOf s).all (has 1)) = tokU (U s) := by
  rw [bytesOf_U, all_nat]; unfold tokU nat; simp
theorem val_U (s : ByteArray) : (if bytesOf s = [] then true else valueL (bytesOf s)) = valU (U s) := by
  unfold valU valueL
  rw [bytesOf_U, all_nat]
  by_cases h : U s = []
  · rw [h]; rfl
  · rw [if_neg h, if_neg (by simpa [nat] using h)]
    have e1 : has 8 ((nat (U s)).headD 0) = hasB 8 ((U s).headD 0) := by
      cases h' : U s with
      | nil => exact absurd h' h
      | cons a l => rfl
    have e2 : has 8 ((nat (U s)).getLastD 0) = hasB 8 ((U s).getLastD 0) := by
      obtain ⟨m, a, e⟩ : ∃ m a, U s = m ++ [a] := ⟨(U s).dropLast, (U s).getLast h, (List.dropLast_concat_getLast h).symm⟩
      rw [e]; simp [nat, hasB]
    rw [e1, e2]
/-- The fields that an answer has of its own. -/
def ownU : List (List UInt8) := ownL
def ownB (n : List UInt8) : Bool := ownU.contains (lowU n)
/-- May a field stand in an answer? -/
def mayU (n v : List UInt8) : Bool := tokU n && valU v && !ownB n
theorem trim_val {s : ByteArray} (h : valU (U s) = true) : strOfNums (trimB (bytesOf s)) = s := by
  have : trimB (bytesOf s) = bytesOf s := by
    by_cases hn : U s = []
    · rw [bytesOf_U, hn]; rfl
    · have h' := (val_U s).trans h
      have hb : bytesOf s ≠ [] := by rw [bytesOf_U]; simpa [nat] using hn
      rw [if_neg hb] at h'
      unfold valueL at h'
      simp only [Bool.and_eq_true, Bool.not_eq_true'] at h'
      have e1 : trimL (bytesOf s) = bytesOf s := by
        cases hc : bytesOf s with
        | nil => rfl
        | cons c m =>
          have : isW c = false := by have := h'.1.2; rw [hc] at this; exact this
          simp [trimL, List.dropWhile_cons, this]
      unfold trimB
      rw [e1]
      exact trimR_no hb h'.2
  rw [this, strOfNums_bytesOf]
theorem own_at (i : Nat) : U (reply_own.c0 (i : Int)) = ownL.getD i [] := by simp [reply_own.c0, U]
theorem may_own.ev (n : ByteArray) : Ev (fun k => reply_may.l0 k n 0) (!ownL.contains (U n)) := by
  have h : ∀ i : Nat, (reply_own.c0 (i : Int)).toList = ownL.getD i [] := fun i => by rw [toList_U, own_at]
  have h0 := h 0
  have h1 := h 1
  have h2 := h 2
  refine ⟨4, fun k hk => ?_⟩
  obtain ⟨k, rfl⟩ : ∃ m, k = m + 4 := ⟨k - 4, by omega⟩
  simp only [reply_may.l0, toList_U] at *
  simp only [show ((0 : Nat) : Int) = 0 from rfl, show ((1 : Nat) : Int) = 1 from rfl, show ((2 : Nat) : Int) = 2 from rfl] at h0 h1 h2
  have w1 : wrap64 (0 + 1) = 1 := wrap64_of (by omega)
  have w2 : wrap64 (1 + 1) = 2 := wrap64_of (by omega)
  have w3 : wrap64 (2 + 1) = 3 := wrap64_of (by omega)
  simp only [w1, w2, w3, h0, h1, h2]
  have e : ownL = [ownL.getD 0 [], ownL.getD 1 [], ownL.getD 2 []] := by decide
  generalize ownL.getD 0 [] = a at *
  generalize ownL.getD 1 [] = b at *
  generalize ownL.getD 2 [] = c at *
  rw [e]
  by_cases ha : U n = a
  · simp [ha]
  · by_cases hb : U n = b
    · subst hb; simp [ha]
    · by_cases hc : U n = c
      · subst hc; simp [ha, hb]
      · simp [ha, hb, hc]
theorem reply_may.ev (n v : ByteArray) (hn : n.size ≤ 140737488351232) (hv : v.size ≤ 140737488351232) : Ev (fun k => reply_may.f k n v) (mayU (U n) (U v)) := by
  simp only [reply_may.f]
  refine (field_Token.ev n hn).bind ?_
  rw [tok_U]
  have hj : ∀ b : Bool, Ev (fun k => reply_may.j0 k b n v) (!b && !ownB (U n)) := fun b => by
    refine Ev.step (f := fun k => if b = true then some false else ((reply_lower.f n).bind fun t118 => (reply_may.l0 k t118 0))) (fun k => by rw [reply_may.j0]) ?_
    cases b
    · refine Ev.if_neg (by simp) ?_
      simp only [lower_some n hn, Option.bind_some]
      have := may_own.ev (mk (lowU (U n)))
      rw [U_mk] at this
      simpa [ownB, ownU] using this
    · exact Ev.if_pos rfl (Ev.now _)
  unfold mayU
  cases h1 : tokU (U n)
  · exact Ev.if_neg (by simp) (by simpa using hj true)
  · refine Ev.if_pos rfl ?_
    refine (field_Value.ev v hv).bind ?_
    rw [val_U]
    cases h2 : valU (U v)
    · exact Ev.if_neg (by simp) (by simpa using hj true)
    · refine Ev.if_pos rfl ?_
      refine (field_Trim.ev v hv).bind ?_
      rw [trim_val h2, bne_self_eq_false]
      simpa using hj false
/-! ### what may stand -/
theorem tok_bytes : ∀ c : Fin 256, has 1 (c.val : Int) = true → c.val ≠ 13 ∧ c.val ≠ 10 ∧ c.val ≠ 58 ∧ c.val ≠ 32 := by decide +kernel
theorem val_bytes : ∀ c : Fin 256, has 4 (c.val : Int) = true → c.val ≠ 13 ∧ c.val ≠ 10 := by decide +kernel
theorem tokU_bytes {l : List UInt8} (h : tokU l = true) : l ≠ [] ∧ ∀ b ∈ l, b ≠ 13 ∧ b ≠ 10 ∧ b ≠ 58 ∧ b ≠ 32 := by
  unfold tokU at h
  simp only [Bool.and_eq_true, Bool.not_eq_true', List.isEmpty_eq_false_iff, List.all_eq_true] at h
  refine ⟨h.1, fun b hb => ?_⟩
  have := tok_bytes ⟨b.toNat, b.toNat_lt⟩ (h.2 b hb)
  refine ⟨?_, ?_, ?_, ?_⟩ <;> rintro rfl <;> simp at this
theorem valU_bytes {l : List UInt8} (h : valU l = true) : ∀ b ∈ l, b ≠ 13 ∧ b ≠ 10 := by
  intro b hb
  unfold valU at h
  rw [if_neg (fun e => by rw [e] at hb; cases hb)] at h
  simp only [Bool.and_eq_true, List.all_eq_true] at h
  have := val_bytes ⟨b.toNat, b.toNat_lt⟩ (h.1.1 b hb)
  refine ⟨?_, ?_⟩ <;> rintro rfl <;> simp at this
/-! ### the length's line -/
def clenU : List UInt8 := [67, 111, 110, 116, 101, 110, 116, 45, 76, 101, 110, 103, 116, 104, 58, 32]
theorem may_noclen {n v : List UInt8} (h : mayU n v = true) : Lib.hasPrefix (n ++ ([58, 32] ++ v)) clenU = false := by
  unfold mayU at h
  simp only [Bool.and_eq_true, Bool.not_eq_true'] at h
  obtain ⟨⟨ht, _⟩, ho⟩ := h
  have hb := (tokU_bytes ht).2
  rw [Bool.eq_false_iff]
  intro hp
  unfold Lib.hasPrefix at hp
  rw [List.isPrefixOf_iff_prefix] at hp
  obtain ⟨r, hr⟩ := hp
  have hr : [67, 111, 110, 116, 101, 110, 116, 45, 76, 101, 110, 103, 116, 104] ++ ([58] ++ (32 :: r)) = n ++ ([58] ++ (32 :: v)) := by simpa [clenU] using hr
  have h1 := cut_ahead (c := 58) (sub := []) [67, 111, 110, 116, 101, 110, 116, 45, 76, 101, 110, 103, 116, 104] (32 :: r) (by decide)
  have h2 := cut_ahead (c := 58) (sub := []) n (32 :: v) (fun b hb' => (hb b hb').2.2.1)
  rw [show ((58 : UInt8) :: []) = [58] from rfl] at h1 h2
  rw [hr, h2] at h1
  have : n = [67, 111, 110, 116, 101, 110, 116, 45, 76, 101, 110, 103, 116, 104] := by injection h1
  rw [this] at ho
  exact absurd ho (by decide)
/-! ### the first line -/
/-- The first line of an answer of this status. -/
def stU (p : Int × List UInt8) : List UInt8 := [72, 84, 84, 80, 47, 49, 46, 49, 32] ++ (Lib.itoa p.1 ++ ([32] ++ p.2))
/-- What the first line says. -/
def statusIn (ps : List (Int × List UInt8)) (l : List UInt8) : Int := match ps with
  | [] => 0
  | p :: r => if l = stU p then p.1 else statusIn r l
def statusU (l : List UInt8) : Int := statusIn phrasesL l
theorem phr_len : phrasesL.length = 17 := by decide
theorem phr_small : phrasesL.all (fun p => decide (200 ≤ p.1) && decide (p.1 ≤ 505) && decide ((Lib.itoa p.1).length = 3) && decide (p.2.length ≤ 40) && !p.2.isEmpty && p.2.all (fun b => b != 13)) = true := by decide +kernel
theorem phr_at (i : Nat) (hi : i < 17) : ∃ p, phrasesL.drop i = p :: phrasesL.drop (i + 1) ∧ p ∈ phrasesL ∧ reply_phrases.c0 (i : Int) = p.1 ∧ U (reply_phrases.c1 (i : Int)) = p.2 ∧ 200 ≤ p.1 ∧ p.1 ≤ 505 ∧ (Lib.itoa p.1).length = 3 ∧ p.2.length ≤ 40 := by
  have hl : i < phrasesL.length := by rw [phr_len]; exact hi
  refine ⟨phrasesL[i], List.drop_eq_getElem_cons hl, List.getElem_mem hl, ?_, ?_, ?_⟩
  · simp [reply_phrases.c0, List.getD_eq_getElem?_getD, List.getElem?_eq_getElem hl]
  · simp [reply_phrases.c1, U, List.getD_eq_getElem?_getD, List.getElem?_eq_getElem hl]
  · have := List.all_eq_true.1 phr_small _ (List.getElem_mem hl)
    simp only [Bool.and_eq_true, decide_eq_true_eq] at this
    exact ⟨this.1.1.1.1.1, this.1.1.1.1.2, this.1.1.1.2, this.1.1.2⟩
theorem itoa_some (n : Int) (h : -9223372036854775808 ≤ n ∧ n ≤ 9223372036854775807) : strconv_Itoa_39.f n = some (mk (Lib.itoa n)) := by
  unfold strconv_Itoa_39.f; rw [if_pos h]; rfl
theorem reply_status.ev (line : ByteArray) : Ev (fun k => reply_status.f k line) (statusU (U line)) := by
  have H := Ev.loop (F := fun k (i : Nat) => reply_status.l0 k line (i : Int)) (r := fun i => statusIn (phrasesL.drop i) (U line)) (fun i => i ≤ 17) (fun i => 17 - i) (by
    intro i hi ih
    simp only [reply_status.l0]
    by_cases h : i < 17
    · obtain ⟨p, hd, _, h0, h1, ha, hb, hc, he⟩ := phr_at i h
      have hs : (reply_phrases.c1 (i : Int)).size = p.2.length := by rw [size_U, h1]
      refine Ev.if_pos (by omega) (Ev.if_pos (by omega) ?_)
      simp only [h0, itoa_some p.1 (by omega), Option.bind_some]
      have e1 : ((⟨#[72, 84, 84, 80, 47, 49, 46, 49, 32]⟩ : ByteArray) ++ mk (Lib.itoa p.1)).size = 12 := by rw [ByteArray.size_append, mk_size, hc]; rfl
      have e2 : (((⟨#[72, 84, 84, 80, 47, 49, 46, 49, 32]⟩ : ByteArray) ++ mk (Lib.itoa p.1)) ++ (⟨#[32]⟩ : ByteArray)).size = 13 := by rw [ByteArray.size_append, e1]; rfl
      refine Ev.if_pos (by rw [mk_size, hc]; omega) (Ev.if_pos (by rw [e1]; omega) (Ev.if_pos (by rw [e2, hs]; omega) ?_))
      have e3 : ((((⟨#[72, 84, 84, 80, 47, 49, 46, 49, 32]⟩ : ByteArray) ++ mk (Lib.itoa p.1)) ++ (⟨#[32]⟩ : ByteArray)) ++ reply_phrases.c1 (i : Int)).toList = stU p := by
        rw [toList_U, U_app, U_app, U_app, U_mk, h1]
        show (([72, 84, 84, 80, 47, 49, 46, 49, 32] ++ Lib.itoa p.1) ++ [32]) ++ p.2 = _
        unfold stU; simp only [List.append_assoc]
      rw [hd]
      simp only [e3, toList_U, statusIn]
      by_cases hq : U line = stU p
      · rw [if_pos hq]; exact Ev.if_pos hq (Ev.now _)
      · rw [if_neg hq]
        refine Ev.if_neg hq ?_
        rw [wrap64_of (by omega)]
        exact ih (i + 1) (by omega) (by omega)
    · refine Ev.if_neg (by omega) ?_
      rw [List.drop_eq_nil_of_le (by rw [phr_len]; omega)]
      exact Ev.now _) 0 (by omega)
  simpa [reply_status.f, statusU] using H
/-- The first lines are read back. -/
theorem statusU_of : ∀ p ∈ phrasesL, statusU (stU p) = p.1 := by
  have : phrasesL.all (fun p => decide (statusU (stU p) = p.1)) = true := by decide +kernel
  intro p hp
  simpa using List.all_eq_true.1 this p hp
theorem statusIn_some : ∀ (ps : List (Int × List UInt8)) (l : List UInt8), statusIn ps l ≠ 0 → ∃ p ∈ ps, p.1 = statusIn ps l ∧ l = stU p
  | [], l, h => absurd rfl h
  | p :: r, l, h => by
    unfold statusIn at h ⊢
    by_cases e : l = stU p
    · rw [if_pos e]; exact ⟨p, List.mem_cons_self, rfl, e⟩
    · rw [if_neg e] at h ⊢
      obtain ⟨q, hq, h1, h2⟩ := statusIn_some r l h
      exact ⟨q, List.mem_cons_of_mem _ hq, h1, h2⟩
/-! ### the length's line, read -/
def digU (b : UInt8) : Bool := decide (48 ≤ b) && decide (b ≤ 57)
def valD (l : List UInt8) (n : Nat) : Nat := l.foldl (fun n b => 10 * n + (b.toNat - 48)) n
/-- What a line's digits say; -1: nothing that may be. -/
def numU (l : List UInt8) : Int := if l = [] ∨ 7 < l.length ∨ (l.headD 0 = 48 ∧ l ≠ [48]) ∨ l.all digU = false then -1 else if 1048576 < valD l 0 then -1 else (valD l 0 : Int)
def sizeU (l : List UInt8) : Int := if Lib.hasPrefix l clenU = true then numU (l.drop 16) else -1
theorem bt_U (s : ByteArray) (i : Nat) (h : i < (U s).length) : bt s (i : Int) = (((U s)[i]'h).toNat : Int) := by
  rw [bt_nat, bytesOf_U]
  simp [nat, List.getD_eq_getElem?_getD, h]
theorem size_l0.ev (s : ByteArray) (hs : (U s).length ≤ 7) : Ev (fun k => reply_size.l0 k s 0 (s.size : Int) 0) (if (U s).all digU = false then -1 else if 1048576 < valD (U s) 0 then -1 else (valD (U s) 0 : Int)) := by
  have hz := size_U s
  have H := Ev.loop (F := fun k (x : Nat × Nat) => reply_size.l0 k s (x.1 : Int) (s.size : Int) (x.2 : Int)) (r := fun x => if ((U s).drop x.2).all digU = false then -1 else if 1048576 < valD ((U s).drop x.2) x.1 then -1 else (valD ((U s).drop x.2) x.1 : Int)) (fun x => x.2 ≤ (U s).length ∧ x.1 < 10 ^ x.2) (fun x => (U s).length - x.2) (by
    rintro ⟨n, i⟩ ⟨hi, hn⟩ ih
    dsimp only at *
    simp only [reply_size.l0]
    by_cases h : i < (U s).length
    · refine Ev.if_pos (by omega) (Ev.if_pos (by omega) (Ev.if_pos (by omega) ?_))
      have hd : (U s).drop i = (U s)[i] :: (U s).drop (i + 1) := List.drop_eq_getElem_cons h
      rw [hd]
      simp only [bt_U s i h]
      generalize (U s)[i] = b at *
      have e48 : (48 ≤ b) ↔ 48 ≤ b.toNat := UInt8.le_iff_toNat_le
      have e57 : (b ≤ 57) ↔ b.toNat ≤ 57 := UInt8.le_iff_toNat_le
      by_cases h1 : b.toNat < 48
      · have : digU b = false := by unfold digU; rw [decide_eq_false (by rw [e48]; omega)]; rfl
        simp only [List.all_cons, this, Bool.false_and, if_true]
        exact Ev.if_pos (by omega) (Ev.now _)
      · refine Ev.if_neg (by omega) ?_
        by_cases h2 : 57 < b.toNat
        · have : digU b = false := by unfold digU; rw [decide_eq_false (p := b ≤ 57) (by rw [e57]; omega)]; simp
          simp only [List.all_cons, this, Bool.false_and, if_true]
          exact Ev.if_pos (by omega) (Ev.now _)
        · refine Ev.if_neg (by omega) ?_
          have hg : digU b = true := by unfold digU; rw [decide_eq_true (e48.2 (by omega)), decide_eq_true (e57.2 (by omega))]; rfl
          have hp : (10 : Nat) ^ i ≤ 10 ^ 6 := Nat.pow_le_pow_right (by omega) (by omega)
          have hp2 : (10 : Nat) ^ (i + 1) = 10 ^ i * 10 := Nat.pow_succ _ _
          have e1 : wrap64 (wrap64 (10 * (n : Int)) + ((b.toNat : Int) - 48) % 256) = ((10 * n + (b.toNat - 48) : Nat) : Int) := by
            rw [wrap64_of (x := 10 * (n : Int)) (by omega), wrap64_of (by omega)]; omega
          rw [e1, wrap64_of (by omega)]
          have := ih (10 * n + (b.toNat - 48), i + 1) ⟨by dsimp only; omega, by dsimp only; rw [hp2]; omega⟩ (by dsimp only; omega)
          dsimp only at this
          simp only [List.all_cons, hg, Bool.true_and]
          exact this
    · refine Ev.if_neg (by omega) ?_
      rw [List.drop_eq_nil_of_le (by omega)]
      show Ev _ (if (1048576 : Nat) < n then -1 else (n : Int))
      by_cases hm : 1048576 < n
      · rw [if_pos hm]; exact Ev.if_pos (by omega) (Ev.now _)
      · rw [if_neg hm]; exact Ev.if_neg (by omega) (Ev.now _)) (0, 0) ⟨by omega, by decide⟩
  simpa using H
theorem size_j0.ev (s : ByteArray) (hs : s.size ≤ 140737488351232) : Ev (fun k => reply_size.j0 k s) (numU (U s)) := by
  have hz := size_U s
  have hj : ∀ b : Bool, (b = false → (U s).length ≤ 7) → Ev (fun k => reply_size.j1 k s b) (if b = true then -1 else if (U s).all digU = false then -1 else if 1048576 < valD (U s) 0 then -1 else (valD (U s) 0 : Int)) := fun b hb => by
    refine Ev.step (f := fun k => if b = true then (some (-1)) else (reply_size.l0 k s 0 (s.size : Int) 0)) (fun k => by rw [reply_size.j1]) ?_
    cases b
    · exact Ev.if_neg (by simp) (by simpa using size_l0.ev s (hb rfl))
    · exact Ev.if_pos rfl (Ev.now _)
  refine Ev.step (f := fun k => if s.toList = ([] : List UInt8) then (reply_size.j1 k s true) else (if (s.size : Int) > 7 then (reply_size.j1 k s true) else (if 0 < (s.size : Int) then (if (bt s 0) = 48 then (reply_size.j1 k s (s.toList != ([48] : List UInt8))) else (reply_size.j1 k s false)) else (none)))) (fun k => by rw [reply_size.j0]) ?_
  unfold numU
  by_cases h0 : U s = []
  · rw [if_pos (.inl h0)]
    exact Ev.if_pos (by rw [toList_U]; exact h0) (by simpa using hj true (by simp))
  · refine Ev.if_neg (by rw [toList_U]; exact h0) ?_
    by_cases h7 : 7 < (U s).length
    · rw [if_pos (.inr (.inl h7))]
      exact Ev.if_pos (by omega) (by simpa using hj true (by simp))
    · refine Ev.if_neg (by omega) ?_
      have hp : 0 < (U s).length := List.length_pos_iff.2 h0
      refine Ev.if_pos (by omega) ?_
      have hb0 := bt_U s 0 hp
      have hh : (U s).headD 0 = (U s)[0] := by
        rw [List.headD_eq_head?_getD, List.head?_eq_getElem?, List.getElem?_eq_getElem hp]; rfl
      have e48 : bt s 0 = 48 ↔ (U s).headD 0 = 48 := by
        rw [show bt s 0 = bt s ((0 : Nat) : Int) from rfl, hb0, hh]
        constructor
        · intro h; apply UInt8.toNat_inj.1; show _ = 48; omega
        · intro h; rw [h]; rfl
      by_cases hc : bt s 0 = 48
      · refine Ev.if_pos hc ?_
        by_cases hd : U s = [48]
        · have hbf : (s.toList != ([48] : List UInt8)) = false := by rw [toList_U, hd]; rfl
          rw [hbf]
          have := hj false (fun _ => by omega)
          rw [if_neg (by simp)] at this
          refine Ev.eq this ?_
          by_cases ha : (U s).all digU = false
          · rw [if_pos ha, if_pos (.inr (.inr (.inr ha)))]
          · rw [if_neg ha, if_neg (c := U s = [] ∨ _) (fun h => h.elim h0 fun h => h.elim h7 fun h => h.elim (fun h => h.2 hd) ha)]
        · have hbf : (s.toList != ([48] : List UInt8)) = true := by rw [toList_U]; simpa using hd
          rw [hbf, if_pos (.inr (.inr (.inl ⟨e48.1 hc, hd⟩)))]
          simpa using hj true (by simp)
      · refine Ev.if_neg hc ?_
        have := hj false (fun _ => by omega)
        rw [if_neg (by simp)] at this
        refine Ev.eq this ?_
        by_cases ha : (U s).all digU = false
        · rw [if_pos ha, if_pos (.inr (.inr (.inr ha)))]
        · rw [if_neg ha, if_neg (c := U s = [] ∨ _) (fun h => h.elim h0 fun h => h.elim h7 fun h => h.elim (fun h => hc (e48.2 h.1)) ha)]
theorem reply_size.ev (s : ByteArray) (hs : s.size ≤ 140737488351232) : Ev (fun k => reply_size.f k s) (sizeU (U s)) := by
  have hz := size_U s
  simp only [reply_size.f, strings_HasPrefix.f, Option.bind_some]
  show Ev (fun k => if Lib.hasPrefix (U s) clenU = true then _ else _) _
  unfold sizeU
  by_cases hp : Lib.hasPrefix (U s) clenU = true
  · rw [if_pos hp]
    refine Ev.if_pos hp ?_
    have hl : 16 ≤ (U s).length := by
      unfold Lib.hasPrefix at hp
      have := (List.isPrefixOf_iff_prefix.1 hp).length_le
      simpa [clenU] using this
    refine Ev.if_pos (by omega) ?_
    have e : U (s.extract 16 s.size) = (U s).drop 16 := U_extract_end s 16
    rw [← e]
    exact size_j0.ev _ (by rw [size_U, e, List.length_drop]; omega)
  · rw [if_neg hp]; exact Ev.if_neg hp (Ev.now _)
/-! ### a number's digits are read back -/
theorem valD_app (a : List UInt8) (b : UInt8) (n : Nat) : valD (a ++ [b]) n = 10 * valD a n + (b.toNat - 48) := by simp [valD, List.foldl_append]
theorem dec_props (u : Nat) : (Lib.decDigits u).all digU = true ∧ valD (Lib.decDigits u) 0 = u ∧ Lib.decDigits u ≠ [] ∧ ((Lib.decDigits u).headD 0 = 48 → Lib.decDigits u = [48]) ∧ ((Lib.decDigits u).headD 0 = 48 → u = 0) := by
  induction u using Nat.strongRecOn with
  | _ u ih =>
    have hdig : ∀ d : Nat, d < 10 → digU (UInt8.ofNat (48 + d)) = true ∧ (UInt8.ofNat (48 + d)).toNat = 48 + d := by decide
    by_cases h : u < 10
    · rw [Lib.decDigits, dif_pos h]
      obtain ⟨h1, h2⟩ := hdig u h
      refine ⟨by rw [List.all_cons, h1]; rfl, by show 10 * 0 + ((UInt8.ofNat (48 + u)).toNat - 48) = u; rw [h2]; omega, List.cons_ne_nil _ _, fun h3 => ?_, fun h3 => ?_⟩
      · simp only [List.headD_cons] at h3; rw [h3]
      · simp only [List.headD_cons] at h3
        have := congrArg UInt8.toNat h3
        rw [h2] at this
        have e : (48 : UInt8).toNat = 48 := rfl
        omega
    · obtain ⟨i1, i2, i3, i4, i5⟩ := ih (u / 10) (by omega)
      rw [Lib.decDigits, dif_neg h]
      obtain ⟨h1, h2⟩ := hdig (u % 10) (by omega)
      have hh : (Lib.decDigits (u / 10) ++ [UInt8.ofNat (48 + u % 10)]).headD 0 = (Lib.decDigits (u / 10)).headD 0 := by
        cases hc : Lib.decDigits (u / 10) with
        | nil => exact absurd hc i3
        | cons a l => rfl
      refine ⟨by rw [List.all_append, i1, List.all_cons, h1]; rfl, by rw [valD_app, i2, h2]; omega, by simp, fun h3 => ?_, fun h3 => ?_⟩
      · rw [hh] at h3; have := i5 h3; omega
      · rw [hh] at h3; have := i5 h3; omega
theorem sizeU_itoa (n : Nat) (hn : n ≤ 1048576) : sizeU (clenU ++ Lib.itoa (n : Int)) = n := by
  obtain ⟨h1, h2, h3, h4, h5⟩ := dec_props n
  have hi : Lib.itoa (n : Int) = Lib.decDigits n := by unfold Lib.itoa; rw [if_neg (by omega)]; simp
  have hl : (Lib.decDigits n).length ≤ 7 := by
    rw [Lib.decDigits_length]
    rcases Nat.lt_or_ge 7 (Lib.nDigits n) with h | h
    · exfalso
      have hk : ∀ k : Nat, ∀ m : Nat, m < 10 ^ (k + 1) → Lib.nDigits m ≤ k + 1 := by
        intro k
        induction k with
        | zero => intro m hm; rw [Lib.nDigits_small (by simpa using hm)]; omega
        | succ k ih =>
          intro m hm
          by_cases hs : m < 10
          · rw [Lib.nDigits_small hs]; omega
          · rw [Lib.nDigits_big hs]
            have := ih (m / 10) (by rw [Nat.pow_succ] at hm; omega)
            omega
      have := hk 6 n (by omega)
      omega
    · exact h
  rw [hi]
  unfold sizeU
  have hp : Lib.hasPrefix (clenU ++ Lib.decDigits n) clenU = true := by
    unfold Lib.hasPrefix; rw [List.isPrefixOf_iff_prefix]; exact List.prefix_append _ _
  rw [if_pos hp]
  have hd : (clenU ++ Lib.decDigits n).drop 16 = Lib.decDigits n := by
    rw [show 16 = clenU.length from rfl, List.drop_left]
  rw [hd]
  unfold numU
  rw [if_neg (fun h => h.elim h3 fun h => h.elim (fun h => absurd hl (by omega)) fun h => h.elim (fun h => h.2 (h4 h.1)) (fun h => by rw [h1] at h; cases h)), h2, if_neg (by omega)]
theorem sizeU_le (l : List UInt8) : sizeU l ≤ 1048576 ∧ -1 ≤ sizeU l := by
  unfold sizeU
  split
  · unfold numU
    split
    · omega
    · split <;> omega
  · omega
end Go.Proofs.YtdlfdmbaejhaaaaDoor.Q
