/- FieldSets answers true: what field.SetCookie and the document's own write. Conditions: a text has at most 140737488351232 bytes, the number is an int. -/
import Derived.Test.YtbkhgmmlacdhoaaDoorQ18
import Derived.Test.YtbkhgmmlacdhoaaDoorPCook
import Derived.Test.YtbkhgmmlacdhoaaDoorItoa
set_option linter.unusedVariables false
set_option linter.unusedSimpArgs false
namespace Go.Proofs.YtbkhgmmlacdhoaaDoor.Q
open Go.RowKit Go.Proofs.YtbkhgmmlacdhoaaDoorW.PrintWords Go.Proofs.YtbkhgmmlacdhoaaDoorW.PrintLast Go.Proofs.YtbkhgmmlacdhoaaDoorW.PrintMore
def decS10 (n : Nat) : ByteArray := ⟨(Lib.decDigits n).toArray⟩
theorem nd_le : ∀ (k u : Nat), u < 10 ^ (k + 1) → Lib.nDigits u ≤ k + 1
  | 0, u, h => by rw [Lib.nDigits_small (by simpa using h)]; omega
  | k + 1, u, h => by
    by_cases hu : u < 10
    · rw [Lib.nDigits_small hu]; omega
    · rw [Lib.nDigits_big hu]
      have := nd_le k (u / 10) (by rw [Nat.div_lt_iff_lt_mul (by omega)]; rw [Nat.pow_succ] at h; exact h)
      omega
theorem dec_size (n : Nat) (h : n < 10 ^ 19) : (decS10 n).size ≤ 19 := by
  have : (decS10 n).size = Lib.nDigits n := by
    show (Lib.decDigits n).toArray.size = _
    rw [List.size_toArray, Lib.decDigits_length]
  rw [this]; exact nd_le 18 n h
theorem BA_assoc (a b c : ByteArray) : (a ++ b) ++ c = a ++ (b ++ c) := ext_bytes (by simp only [bytesOf_append, List.append_assoc])
theorem BA_nil (a : ByteArray) : a ++ (⟨#[]⟩ : ByteArray) = a := ext_bytes (by rw [bytesOf_append]; simp [bytesOf])
theorem dec_step (n : Nat) (h : 10 ≤ n) : decS10 n = decS10 (n / 10) ++ (⟨#[UInt8.ofNat (48 + n % 10)]⟩ : ByteArray) := by
  apply ext_bytes
  rw [bytesOf_append]
  unfold decS10
  rw [Lib.decDigits, dif_neg (by omega)]
  simp [bytesOf]
theorem dig_one (n : Nat) : strOfNums [(wrap64 (48 + Int.tmod (n : Int) 10)) % 256] = (⟨#[UInt8.ofNat (48 + n % 10)]⟩ : ByteArray) := by
  apply ext_bytes
  have hm : Int.tmod (n : Int) 10 = ((n % 10 : Nat) : Int) := by rw [Int.tmod_eq_emod_of_nonneg (by omega)]; omega
  have hlt := Nat.mod_lt n (show 10 > 0 by omega)
  rw [hm, wrap64_of (by omega), show (48 + ((n % 10 : Nat) : Int)) % 256 = 48 + ((n % 10 : Nat) : Int) by omega]
  rw [bytesOf_strOfNums (by intro x hx; simp at hx; omega)]
  simp [bytesOf]
  omega
theorem decimal.ev (n : Nat) (hn : n ≤ 9223372036854775807) : Ev (fun k => usherref6_decimal.f k (n : Int)) (decS10 n) := by
  simp only [usherref6_decimal.f]
  rw [dig_one]
  have hq : wrap64 (Int.tdiv (n : Int) 10) = ((n / 10 : Nat) : Int) := by
    have : Int.tdiv (n : Int) 10 = ((n / 10 : Nat) : Int) := by rw [Int.tdiv_eq_ediv_of_nonneg (by omega)]; omega
    rw [this, wrap64_of (by omega)]
  rw [hq]
  have H := Ev.loop (F := fun k (x : Nat × ByteArray × Nat) => usherref6_decimal.l0 k (x.1 : Int) x.2.1 (x.2.2 : Int)) (r := fun x => if x.1 = 0 then x.2.1 else decS10 x.1 ++ x.2.1) (fun x => x.2.2 ≤ 18 ∧ x.1 < 10 ^ (18 - x.2.2) ∧ x.2.1.size ≤ x.2.2 + 1) (fun x => 18 - x.2.2) (by
    rintro ⟨m, s, i⟩ ⟨hi, hm, hs⟩ ih
    dsimp only at *
    simp only [usherref6_decimal.l0]
    by_cases h18 : i < 18
    · refine Ev.if_pos (by omega) ?_
      by_cases h0 : m = 0
      · rw [if_pos h0]
        exact Ev.if_neg (by omega) (Ev.now _)
      · rw [if_neg h0]
        refine Ev.if_pos (by omega) ?_
        simp only [Option.bind_some, dig_one]
        have hmx : m ≤ 9223372036854775807 := by
          have : (10 : Nat) ^ (18 - i) ≤ 10 ^ 18 := Nat.pow_le_pow_right (by omega) (by omega)
          omega
        have hq' : wrap64 (Int.tdiv (m : Int) 10) = ((m / 10 : Nat) : Int) := by
          have : Int.tdiv (m : Int) 10 = ((m / 10 : Nat) : Int) := by rw [Int.tdiv_eq_ediv_of_nonneg (by omega)]; omega
          rw [this, wrap64_of (by omega)]
        rw [hq', wrap64_of (by omega)]
        have h1 : (i : Int) + 1 = ((i + 1 : Nat) : Int) := by omega
        have hsz : ∀ b : UInt8, (⟨#[b]⟩ : ByteArray).size = 1 := fun _ => rfl
        refine Ev.if_pos (by rw [hsz]; omega) ?_
        rw [h1]
        have hp : (10 : Nat) ^ (18 - i) = 10 ^ (18 - (i + 1)) * 10 := by rw [← Nat.pow_succ]; congr 1; omega
        refine Ev.eq (ih (m / 10, (⟨#[UInt8.ofNat (48 + m % 10)]⟩ : ByteArray) ++ s, i + 1) ⟨by dsimp only; omega, by dsimp only; rw [Nat.div_lt_iff_lt_mul (by omega), ← hp]; exact hm, by dsimp only; rw [ByteArray.size_append, hsz]; omega⟩ (by dsimp only; omega)) ?_
        dsimp only
        by_cases hz : m / 10 = 0
        · rw [if_pos hz]
          congr 1
          unfold decS10
          rw [Lib.decDigits, dif_pos (by omega)]
          simp [show m % 10 = m by omega]
        · rw [if_neg hz, dec_step m (by omega), BA_assoc]
    · refine Ev.if_neg (by omega) ?_
      have : m = 0 := by
        have : 18 - i = 0 := by omega
        rw [this] at hm; omega
      rw [if_pos this]
      exact Ev.now _) (n / 10, (⟨#[UInt8.ofNat (48 + n % 10)]⟩ : ByteArray), 0) ⟨by dsimp only; omega, by dsimp only; omega, by dsimp only; exact Nat.le_refl 1⟩
  refine Ev.eq H ?_
  dsimp only
  by_cases hz : n / 10 = 0
  · rw [if_pos hz]
    unfold decS10
    rw [Lib.decDigits, dif_pos (by omega)]
    simp [show n % 10 = n by omega]
  · rw [if_neg hz, dec_step n (by omega)]
theorem itoa_some (n : Nat) (hn : n ≤ 9223372036854775807) : strconv_Itoa_74.f (n : Int) = some (decS10 n) := by
  unfold strconv_Itoa_74.f Lib.itoa decS10
  rw [if_pos (by omega), if_neg (by omega)]
  rfl
theorem i64_wf {n : Int} (h : (Lit.int .i64 n).wf = true) : -9223372036854775808 ≤ n ∧ n ≤ 9223372036854775807 := by
  have e1 : IntKind.i64.min = -9223372036854775808 := by decide
  have e2 : IntKind.i64.max = 9223372036854775807 := by decide
  simp only [Lit.wf, Bool.and_eq_true, decide_eq_true_eq, e1, e2] at h
  exact h
set_option maxHeartbeats 1000000 in
theorem FieldSets_pure (a b : ByteArray) (n : Int) (ha : a.size ≤ 140737488351232) (hb : b.size ≤ 140737488351232) (hw : (Lit.int .i64 n).wf = true) : ∃ k, usherlaw6_FieldSets.f k a b n = some true := by
  refine Ev.rounds (g := fun k => usherlaw6_FieldSets.f k a b n) ?_
  have hw2 := i64_wf hw
  have hmay := field_may.ev a b ha hb
  have htok : Ev (fun k => usherref6_Token.f k a) (tokL (bytesOf a)) := usherref6_Token.ev a ha
  have hcook := usherref6_CookieValue.ev b hb
  simp only [usherlaw6_FieldSets.f]
  by_cases ht : tokL (bytesOf a) = true ∧ cookL (bytesOf b) = true
  · rw [ht.1, ht.2] at hmay
    rw [ht.1] at htok
    rw [ht.2] at hcook
    by_cases hn : 0 ≤ n
    · obtain ⟨m, rfl⟩ := Int.eq_ofNat_of_zero_le hn
      have hm : m ≤ 9223372036854775807 := by omega
      have hd := dec_size m (by omega)
      have hF : Ev (fun k => field_SetCookie.f k a b (m : Int)) (((((a ++ (⟨#[61]⟩ : ByteArray)) ++ b) ++ (⟨#[59, 32, 80, 97, 116, 104, 61, 47]⟩ : ByteArray)) ++ ((⟨#[59, 32, 77, 97, 120, 45, 65, 103, 101, 61]⟩ : ByteArray) ++ decS10 m)) ++ (⟨#[59, 32, 83, 101, 99, 117, 114, 101, 59, 32, 72, 116, 116, 112, 79, 110, 108, 121, 59, 32, 83, 97, 109, 101, 83, 105, 116, 101, 61, 76, 97, 120]⟩ : ByteArray), none) := by
        simp only [field_SetCookie.f]
        refine hmay.bind (Ev.if_pos rfl (Ev.if_pos (by (try simp only [ByteArray.size_append', ByteArray.size_mk', List.size_toArray, List.length_cons, List.length_nil, Nat.reduceAdd]); omega) (Ev.if_pos (by (try simp only [ByteArray.size_append', ByteArray.size_mk', List.size_toArray, List.length_cons, List.length_nil, Nat.reduceAdd]); omega) (Ev.if_pos (by (try simp only [ByteArray.size_append', ByteArray.size_mk', List.size_toArray, List.length_cons, List.length_nil, Nat.reduceAdd]); omega) (Ev.if_pos hn ?_)))))
        simp only [itoa_some m hm, Option.bind_some]
        exact Ev.if_pos (by (try simp only [ByteArray.size_append', ByteArray.size_mk', List.size_toArray, List.length_cons, List.length_nil, Nat.reduceAdd]); omega) (Ev.if_pos (by (try simp only [ByteArray.size_append', ByteArray.size_mk', List.size_toArray, List.length_cons, List.length_nil, Nat.reduceAdd]); omega) (Ev.if_pos (by (try simp only [ByteArray.size_append', ByteArray.size_mk', List.size_toArray, List.length_cons, List.length_nil, Nat.reduceAdd]); omega) (Ev.now _)))
      have hR : Ev (fun k => usherref6_SetCookie.f k a b (m : Int)) (((((a ++ (⟨#[61]⟩ : ByteArray)) ++ b) ++ (⟨#[59, 32, 80, 97, 116, 104, 61, 47]⟩ : ByteArray)) ++ ((⟨#[59, 32, 77, 97, 120, 45, 65, 103, 101, 61]⟩ : ByteArray) ++ decS10 m)) ++ (⟨#[59, 32, 83, 101, 99, 117, 114, 101, 59, 32, 72, 116, 116, 112, 79, 110, 108, 121, 59, 32, 83, 97, 109, 101, 83, 105, 116, 101, 61, 76, 97, 120]⟩ : ByteArray), 0) := by
        simp only [usherref6_SetCookie.f]
        refine htok.bind (hcook.bind (Ev.if_pos rfl ?_))
        refine Ev.step (f := fun k => usherref6_SetCookie.j0 (k + 1) (!true) a b (m : Int)) (fun _ => rfl) ?_
        simp only [usherref6_SetCookie.j0]
        refine Ev.if_neg (by simp) (Ev.if_pos hn ?_)
        refine (decimal.ev m hm).bind ?_
        exact Ev.if_pos (by (try simp only [ByteArray.size_append', ByteArray.size_mk', List.size_toArray, List.length_cons, List.length_nil, Nat.reduceAdd]); omega) (Ev.if_pos (by (try simp only [ByteArray.size_append', ByteArray.size_mk', List.size_toArray, List.length_cons, List.length_nil, Nat.reduceAdd]); omega) (Ev.if_pos (by (try simp only [ByteArray.size_append', ByteArray.size_mk', List.size_toArray, List.length_cons, List.length_nil, Nat.reduceAdd]); omega) (Ev.if_pos (by (try simp only [ByteArray.size_append', ByteArray.size_mk', List.size_toArray, List.length_cons, List.length_nil, Nat.reduceAdd]); omega) (Ev.if_pos (by (try simp only [ByteArray.size_append', ByteArray.size_mk', List.size_toArray, List.length_cons, List.length_nil, Nat.reduceAdd]); omega) (Ev.if_pos (by (try simp only [ByteArray.size_append', ByteArray.size_mk', List.size_toArray, List.length_cons, List.length_nil, Nat.reduceAdd]); omega) (Ev.now _))))))
      refine hF.bind (hR.bind (Ev.if_pos rfl ?_))
      exact Ev.now true
    · have hF : Ev (fun k => field_SetCookie.f k a b n) ((((a ++ (⟨#[61]⟩ : ByteArray)) ++ b) ++ (⟨#[59, 32, 80, 97, 116, 104, 61, 47]⟩ : ByteArray)) ++ (⟨#[59, 32, 83, 101, 99, 117, 114, 101, 59, 32, 72, 116, 116, 112, 79, 110, 108, 121, 59, 32, 83, 97, 109, 101, 83, 105, 116, 101, 61, 76, 97, 120]⟩ : ByteArray), none) := by
        simp only [field_SetCookie.f]
        refine hmay.bind (Ev.if_pos rfl (Ev.if_pos (by (try simp only [ByteArray.size_append', ByteArray.size_mk', List.size_toArray, List.length_cons, List.length_nil, Nat.reduceAdd]); omega) (Ev.if_pos (by (try simp only [ByteArray.size_append', ByteArray.size_mk', List.size_toArray, List.length_cons, List.length_nil, Nat.reduceAdd]); omega) (Ev.if_pos (by (try simp only [ByteArray.size_append', ByteArray.size_mk', List.size_toArray, List.length_cons, List.length_nil, Nat.reduceAdd]); omega) (Ev.if_neg hn ?_)))))
        exact Ev.if_pos (by (try simp only [ByteArray.size_append', ByteArray.size_mk', List.size_toArray, List.length_cons, List.length_nil, Nat.reduceAdd]); omega) (Ev.now _)
      have hR : Ev (fun k => usherref6_SetCookie.f k a b n) ((((a ++ (⟨#[61]⟩ : ByteArray)) ++ b) ++ (⟨#[59, 32, 80, 97, 116, 104, 61, 47]⟩ : ByteArray)) ++ (⟨#[59, 32, 83, 101, 99, 117, 114, 101, 59, 32, 72, 116, 116, 112, 79, 110, 108, 121, 59, 32, 83, 97, 109, 101, 83, 105, 116, 101, 61, 76, 97, 120]⟩ : ByteArray), 0) := by
        simp only [usherref6_SetCookie.f]
        refine htok.bind (hcook.bind (Ev.if_pos rfl ?_))
        refine Ev.step (f := fun k => usherref6_SetCookie.j0 (k + 1) (!true) a b n) (fun _ => rfl) ?_
        simp only [usherref6_SetCookie.j0, BA_nil]
        refine Ev.if_neg (by simp) (Ev.if_neg hn ?_)
        exact Ev.if_pos (by (try simp only [ByteArray.size_append', ByteArray.size_mk', List.size_toArray, List.length_cons, List.length_nil, Nat.reduceAdd]); omega) (Ev.if_pos (by (try simp only [ByteArray.size_append', ByteArray.size_mk', List.size_toArray, List.length_cons, List.length_nil, Nat.reduceAdd]); omega) (Ev.if_pos (by (try simp only [ByteArray.size_append', ByteArray.size_mk', List.size_toArray, List.length_cons, List.length_nil, Nat.reduceAdd]); omega) (Ev.if_pos (by (try simp only [ByteArray.size_append', ByteArray.size_mk', List.size_toArray, List.length_cons, List.length_nil, Nat.reduceAdd]); omega) (Ev.if_pos (by (try simp only [ByteArray.size_append', ByteArray.size_mk', List.size_toArray, List.length_cons, List.length_nil, Nat.reduceAdd]); omega) (Ev.now _)))))
      refine hF.bind (hR.bind (Ev.if_pos rfl ?_))
      exact Ev.now true
  · have hF : Ev (fun k => field_SetCookie.f k a b n) ((⟨#[]⟩ : ByteArray), some 2) := by
      simp only [field_SetCookie.f]
      have e : (tokL (bytesOf a) && cookL (bytesOf b)) = false := by
        cases h1 : tokL (bytesOf a) <;> cases h2 : cookL (bytesOf b) <;> simp_all
      rw [e] at hmay
      exact hmay.bind (Ev.if_neg (by simp) (Ev.now _))
    have hR : Ev (fun k => usherref6_SetCookie.f k a b n) ((⟨#[]⟩ : ByteArray), 2) := by
      simp only [usherref6_SetCookie.f]
      refine htok.bind (hcook.bind ?_)
      cases h1 : tokL (bytesOf a)
      · refine Ev.if_neg (by simp) ?_
        refine Ev.step (f := fun k => usherref6_SetCookie.j0 (k + 1) true a b n) (fun _ => rfl) ?_
        simp only [usherref6_SetCookie.j0]
        exact Ev.if_pos (by simp) (Ev.now _)
      · refine Ev.if_pos rfl ?_
        have h2 : cookL (bytesOf b) = false := by
          cases h2 : cookL (bytesOf b)
          · rfl
          · exact absurd ⟨h1, h2⟩ ht
        rw [h2]
        refine Ev.step (f := fun k => usherref6_SetCookie.j0 (k + 1) (!false) a b n) (fun _ => rfl) ?_
        simp only [usherref6_SetCookie.j0]
        exact Ev.if_pos (by simp) (Ev.now _)
    refine hF.bind (hR.bind (Ev.if_pos rfl ?_))
    exact Ev.now true
end Go.Proofs.YtbkhgmmlacdhoaaDoor.Q
