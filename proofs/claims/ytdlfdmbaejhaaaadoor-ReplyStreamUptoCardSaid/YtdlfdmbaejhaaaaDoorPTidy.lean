/- What usherlaw8's small, own, nameOf, valueOf and tidy, usherkit's Head and Pick and usherref0's SameReply answer, as plain functions of the bytes; what tidy makes may be an answer. Conditions: a text has at most 2^40 bytes. -/
import Derived.Test.YtdlfdmbaejhaaaaDoorQ11
import Derived.Test.YtdlfdmbaejhaaaaDoorQ5
import Derived.Test.YtdlfdmbaejhaaaaDoorPReadU
set_option linter.unusedVariables false
set_option linter.unusedSimpArgs false
namespace Go.Proofs.YtdlfdmbaejhaaaaDoor.Q
open Go.RowKit Go.Proofs.YtdlfdmbaejhaaaaDoorW.PrintWords Go.Proofs.YtdlfdmbaejhaaaaDoorW.PrintLast Go.Proofs.YtdlfdmbaejhaaaaDoorW.PrintMore
theorem nat_snoc (l : List UInt8) (b : UInt8) : nat l ++ [(b.toNat : Int)] = nat (l ++ [b]) := by simp [nat]
theorem drop_get (l : List UInt8) {i : Nat} (h : i < l.length) : l.drop i = l[i] :: l.drop (i + 1) := List.drop_eq_getElem_cons h
/-! ### small, own -/
def lowB (b : UInt8) : UInt8 := if 65 ≤ b ∧ b ≤ 90 then b + 32 else b
theorem lowB_at : ∀ c : Fin 256, (if (c.val : Int) ≥ 65 then (if (c.val : Int) ≤ 90 then ((c.val : Int) + 32) % 256 else (c.val : Int)) else (c.val : Int)) = ((lowB (UInt8.ofNat c.val)).toNat : Int) := by decide +kernel
theorem lowB_of (b : UInt8) : (if (b.toNat : Int) ≥ 65 then (if (b.toNat : Int) ≤ 90 then ((b.toNat : Int) + 32) % 256 else (b.toNat : Int)) else (b.toNat : Int)) = ((lowB b).toNat : Int) := by
  have := lowB_at ⟨b.toNat, b.toNat_lt⟩
  simpa using this
theorem small.ev (s : ByteArray) (hs : s.size ≤ 1099511627776) : Ev (fun k => usherlaw8_small.f k s) (mk (lowU (U s))) := by
  have hz := size_U s
  have H := Ev.loop (F := fun k (x : List UInt8 × Nat) => usherlaw8_small.l0 k s (nat x.1) (x.2 : Int)) (r := fun x => mk (x.1 ++ lowU ((U s).drop x.2))) (fun x => x.2 ≤ (U s).length ∧ x.1.length ≤ x.2) (fun x => (U s).length - x.2) (by
    rintro ⟨a, i⟩ ⟨hi, ha⟩ ih
    dsimp only at hi ha
    simp only [usherlaw8_small.l0]
    by_cases h : i < (U s).length
    · refine Ev.if_pos (by omega) (Ev.if_pos (by omega) ?_)
      rw [drop_get _ h]
      simp only [bt_U s i h]
      generalize (U s)[i] = b at *
      have hl := lowB_of b
      have e : lowU (b :: (U s).drop (i + 1)) = lowB b :: lowU ((U s).drop (i + 1)) := rfl
      rw [e, wrap64_of (by omega)]
      have := ih (a ++ [lowB b], i + 1) ⟨by dsimp only; omega, by simp; omega⟩ (by dsimp only; omega)
      simp only [List.append_assoc, List.cons_append, List.nil_append] at this
      have hn := nat_length a
      rw [← nat_snoc, ← hl] at this
      by_cases h1 : (b.toNat : Int) ≥ 65
      · by_cases h2 : (b.toNat : Int) ≤ 90
        · rw [if_pos h1, if_pos h2] at this
          exact Ev.if_pos h1 (Ev.if_pos h2 (Ev.if_pos (by omega) this))
        · rw [if_pos h1, if_neg h2] at this
          exact Ev.if_pos h1 (Ev.if_neg h2 (Ev.if_pos (by omega) this))
      · rw [if_neg h1] at this
        exact Ev.if_neg h1 (Ev.if_pos (by omega) this)
    · refine Ev.if_neg (by omega) ?_
      rw [List.drop_eq_nil_of_le (by omega), strOf_nat]
      refine Ev.eq (Ev.now _) ?_
      simp [lowU]) ([], 0) ⟨by dsimp only; omega, by simp⟩
  simpa [usherlaw8_small.f, nat] using H
theorem own_eq : ownL = [[99, 111, 110, 116, 101, 110, 116, 45, 108, 101, 110, 103, 116, 104], [99, 111, 110, 110, 101, 99, 116, 105, 111, 110], [116, 114, 97, 110, 115, 102, 101, 114, 45, 101, 110, 99, 111, 100, 105, 110, 103]] := by decide +kernel
theorem own.ev (s : ByteArray) (hs : s.size ≤ 1099511627776) : Ev (fun k => usherlaw8_own.f k s) (ownB (U s)) := by
  simp only [usherlaw8_own.f]
  refine (small.ev s hs).bind ?_
  unfold ownB ownU
  rw [own_eq, toList_U, U_mk]
  by_cases h1 : lowU (U s) = [99, 111, 110, 116, 101, 110, 116, 45, 108, 101, 110, 103, 116, 104]
  · exact Ev.if_pos h1 (Ev.eq (Ev.now _) (by rw [h1]; rfl))
  · refine Ev.if_neg h1 ?_
    by_cases h2 : lowU (U s) = [99, 111, 110, 110, 101, 99, 116, 105, 111, 110]
    · exact Ev.if_pos h2 (Ev.eq (Ev.now _) (by rw [h2]; rfl))
    · refine Ev.if_neg h2 (Ev.eq (Ev.now _) ?_)
      rw [Bool.eq_iff_iff]; simp [h1, h2]
/-! ### nameOf -/
def nmI (c : Int) : Bool := decide (97 ≤ c ∧ c ≤ 122 ∨ 65 ≤ c ∧ c ≤ 90 ∨ 48 ≤ c ∧ c ≤ 57 ∨ c = 45)
def nmB (b : UInt8) : Bool := nmI (b.toNat : Int)
def nameU (l : List UInt8) : List UInt8 := if l.filter nmB = [] ∨ ownB (l.filter nmB) = true then 120 :: l.filter nmB else l.filter nmB
theorem name_step (k : Nat) (s : ByteArray) (a : List Int) (i : Int) (h0 : 0 ≤ i) (h1 : i < (s.size : Int)) (ha : a.length < 140737488355328) :
    usherlaw8_nameOf.l0 (k + 1) s a i = if nmI (bt s i) = true then usherlaw8_nameOf.l0 k s (a ++ [bt s i]) (wrap64 (i + 1)) else usherlaw8_nameOf.l0 k s a (wrap64 (i + 1)) := by
  rw [usherlaw8_nameOf.l0, if_pos h1, if_pos h0]
  simp only [if_pos ha]
  generalize usherlaw8_nameOf.l0 k s (a ++ [bt s i]) (wrap64 (i + 1)) = A
  generalize usherlaw8_nameOf.l0 k s a (wrap64 (i + 1)) = B
  generalize bt s i = c
  have hn : (nmI c = true) = (97 ≤ c ∧ c ≤ 122 ∨ 65 ≤ c ∧ c ≤ 90 ∨ 48 ≤ c ∧ c ≤ 57 ∨ c = 45) := by simp [nmI]
  simp only [hn, ge_iff_le]
  repeat' split
  all_goals first
    | rfl
    | (exfalso; omega)
theorem name_tok_at : ∀ c : Fin 256, nmB (UInt8.ofNat c.val) = true → hasB 1 (UInt8.ofNat c.val) = true := by decide +kernel
theorem name_tok {b : UInt8} (h : nmB b = true) : hasB 1 b = true := by
  have := name_tok_at ⟨b.toNat, b.toNat_lt⟩
  simp only [UInt8.ofNat_toNat] at this
  exact this h
theorem nameU_tok (l : List UInt8) : tokU (nameU l) = true := by
  have hall : (l.filter nmB).all (hasB 1) = true := by
    rw [List.all_eq_true]; intro b hb; exact name_tok (List.mem_filter.1 hb).2
  unfold nameU
  split
  · have h120 : hasB 1 120 = true := by decide +kernel
    unfold tokU; rw [List.all_cons, hall, h120]; rfl
  · rename_i h
    unfold tokU
    rw [hall, Bool.and_true, Bool.not_eq_true', List.isEmpty_eq_false_iff]
    exact fun e => h (.inl e)
theorem nameU_own (l : List UInt8) : ownB (nameU l) = false := by
  unfold nameU
  split
  · unfold ownB ownU lowU
    rw [own_eq, List.map_cons]
    have : (if (65 : UInt8) ≤ 120 ∧ (120 : UInt8) ≤ 90 then (120 : UInt8) + 32 else 120) = 120 := by decide
    rw [this]
    simp
  · rename_i h
    rw [Bool.eq_false_iff]; exact fun e => h (.inr e)
theorem nameU_len (l : List UInt8) : (nameU l).length ≤ l.length + 1 := by
  have := List.length_filter_le nmB l
  unfold nameU; split
  · rw [List.length_cons]; omega
  · omega
theorem nameOf.ev (s : ByteArray) (hs : s.size ≤ 1099511627776) : Ev (fun k => usherlaw8_nameOf.f k s) (mk (nameU (U s))) := by
  have hz := size_U s
  have H := Ev.loop (F := fun k (x : List UInt8 × Nat) => usherlaw8_nameOf.l0 k s (nat x.1) (x.2 : Int)) (r := fun x => mk (nameU (x.1 ++ (U s).drop x.2))) (fun x => x.2 ≤ (U s).length ∧ x.1.length ≤ x.2 ∧ x.1.filter nmB = x.1) (fun x => (U s).length - x.2) (by
    rintro ⟨a, i⟩ ⟨hi, ha, hf⟩ ih
    dsimp only at hi ha hf
    have hn := nat_length a
    by_cases h : i < (U s).length
    · refine Ev.congr (fun k => name_step k s (nat a) (i : Int) (by omega) (by omega) (by omega)) ?_
      rw [drop_get _ h]
      simp only [bt_U s i h]
      rw [wrap64_of (by omega)]
      generalize (U s)[i] = b at *
      by_cases hb : nmI (b.toNat : Int) = true
      · refine Ev.if_pos hb ?_
        have := ih (a ++ [b], i + 1) ⟨by dsimp only; omega, by simp; omega, by
          dsimp only; rw [List.filter_append, hf]
          have : nmB b = true := hb
          simp [this]⟩ (by dsimp only; omega)
        simp only [List.append_assoc, List.cons_append, List.nil_append, ← nat_snoc] at this
        exact this
      · refine Ev.if_neg hb ?_
        have := ih (a, i + 1) ⟨by dsimp only; omega, by dsimp only; omega, hf⟩ (by dsimp only; omega)
        dsimp only at this
        refine Ev.eq this ?_
        have hb' : nmB b = false := by rw [Bool.eq_false_iff]; exact hb
        unfold nameU
        rw [List.filter_append, List.filter_append, List.filter_cons, hb']
        rfl
    · rw [List.drop_eq_nil_of_le (by omega), List.append_nil]
      refine Ev.congr (f := fun k => (usherlaw8_own.f k (mk a)).bind fun t => (if (mk a).toList = ([] : List UInt8) then (if 1 + (mk a).size ≤ 9223372036854775807 then (some ((⟨#[120]⟩ : ByteArray) ++ (mk a))) else (none)) else (if t = true then (if 1 + (mk a).size ≤ 9223372036854775807 then (some ((⟨#[120]⟩ : ByteArray) ++ (mk a))) else (none)) else (some (mk a))))) (fun k => by rw [usherlaw8_nameOf.l0, if_neg (by omega), strOf_nat]) ?_
      refine (own.ev (mk a) (by rw [mk_size]; omega)).bind ?_
      have hsz := mk_size a
      have e120 : ((⟨#[120]⟩ : ByteArray) ++ mk a) = mk (120 :: a) := U_inj (by rw [U_app, U_mk, U_mk]; rfl)
      rw [toList_U, U_mk, e120]
      unfold nameU
      rw [hf]
      by_cases hnil : a = []
      · rw [if_pos (c := a = [] ∨ ownB a = true) (.inl hnil)]; exact Ev.if_pos hnil (Ev.if_pos (by omega) (Ev.now _))
      · by_cases ho : ownB a = true
        · rw [if_pos (c := a = [] ∨ ownB a = true) (.inr ho)]; exact Ev.if_neg hnil (Ev.if_pos ho (Ev.if_pos (by omega) (Ev.now _)))
        · rw [if_neg (c := a = [] ∨ ownB a = true) (fun e => e.elim hnil ho)]; exact Ev.if_neg hnil (Ev.if_neg ho (Ev.now _))) ([], 0) ⟨by dsimp only; omega, by simp, rfl⟩
  simpa [usherlaw8_nameOf.f, nat] using H
/-! ### valueOf -/
def vlB (b : UInt8) : Bool := hasB 4 b
def wB (b : UInt8) : Bool := hasB 8 b
theorem vl_at : ∀ c : Fin 256, vlB (UInt8.ofNat c.val) = decide ((c.val : Int) = 9 ∨ (32 ≤ (c.val : Int) ∧ (c.val : Int) ≠ 127)) := by decide +kernel
theorem vl_iff (b : UInt8) : vlB b = decide ((b.toNat : Int) = 9 ∨ (32 ≤ (b.toNat : Int) ∧ (b.toNat : Int) ≠ 127)) := by
  have := vl_at ⟨b.toNat, b.toNat_lt⟩
  simpa only [UInt8.ofNat_toNat] using this
theorem w_at : ∀ c : Fin 256, wB (UInt8.ofNat c.val) = decide ((c.val : Int) = 32 ∨ (c.val : Int) = 9) := by decide +kernel
theorem w_iff (b : UInt8) : wB b = decide ((b.toNat : Int) = 32 ∨ (b.toNat : Int) = 9) := by
  have := w_at ⟨b.toNat, b.toNat_lt⟩
  simpa only [UInt8.ofNat_toNat] using this
def rdropW (l : List UInt8) : List UInt8 := (l.reverse.dropWhile wB).reverse
def valueU (l : List UInt8) : List UInt8 := rdropW ((l.filter vlB).dropWhile wB)
theorem rdropW_snoc (l : List UInt8) (b : UInt8) : rdropW (l ++ [b]) = if wB b = true then rdropW l else l ++ [b] := by
  unfold rdropW
  rw [List.reverse_append]
  simp only [List.reverse_cons, List.reverse_nil, List.nil_append, List.cons_append, List.dropWhile_cons]
  split <;> simp
theorem rd_U (f : List UInt8) (i : Nat) (h : i < f.length) : rd (nat f) (i : Int) = ((f[i]'h).toNat : Int) := by
  unfold rd nat
  simp [List.getD_eq_getElem?_getD, h]
theorem slice_U (f : List UInt8) (a b : Nat) : strOfNums (((nat f).take b).drop a) = mk ((f.take b).drop a) := by
  have : ((nat f).take b).drop a = nat ((f.take b).drop a) := by simp [nat, List.map_take, List.map_drop]
  rw [this, strOf_nat]
theorem value_l2.ev (f : List UInt8) (lo : Nat) (hf : f.length ≤ 1099511627776) (hl : lo ≤ f.length) : Ev (fun k => usherlaw8_valueOf.l2 k (nat f) (lo : Int) (f.length : Int)) (mk (rdropW (f.drop lo))) := by
  have hn := nat_length f
  have H := Ev.loop (F := fun k (hi : Nat) => usherlaw8_valueOf.l2 k (nat f) (lo : Int) (hi : Int)) (r := fun hi => mk (rdropW ((f.take hi).drop lo))) (fun hi => lo ≤ hi ∧ hi ≤ f.length) (fun hi => hi) (by
    rintro hi ⟨h1, h2⟩ ih
    simp only [usherlaw8_valueOf.l2]
    have hret : rdropW ((f.take hi).drop lo) = (f.take hi).drop lo → Ev (fun _ => if 0 ≤ (lo : Int) then (if (lo : Int) ≤ (hi : Int) then (if (hi : Int) ≤ ((nat f).length : Int) then (some (strOfNums (((nat f).take (hi : Int).toNat).drop (lo : Int).toNat))) else (none)) else (none)) else (none)) (mk (rdropW ((f.take hi).drop lo))) := fun e => by
      rw [e, Int.toNat_natCast, Int.toNat_natCast, slice_U]
      exact Ev.if_pos (by omega) (Ev.if_pos (by omega) (Ev.if_pos (by omega) (Ev.now _)))
    by_cases h : lo < hi
    · have hw : wrap64 ((hi : Int) - 1) = ((hi - 1 : Nat) : Int) := by rw [wrap64_of (by omega)]; omega
      rw [hw, rd_U f (hi - 1) (by omega)]
      refine Ev.if_pos (by omega) (Ev.if_pos (by omega) (Ev.if_pos (by omega) ?_))
      have e : (f.take hi).drop lo = (f.take (hi - 1)).drop lo ++ [f[hi - 1]] := by
        have : f.take hi = f.take (hi - 1) ++ [f[hi - 1]] := by
          rw [List.take_append_getElem (by omega)]; congr 1; omega
        rw [this, List.drop_append_of_le_length (by rw [List.length_take]; omega)]
      have hb := w_iff f[hi - 1]
      have hs := rdropW_snoc ((f.take (hi - 1)).drop lo) f[hi - 1]
      by_cases a1 : (f[hi - 1].toNat : Int) = 32
      · rw [hb, decide_eq_true (.inl a1), if_pos rfl] at hs
        rw [e, hs]
        exact Ev.if_pos a1 (ih (hi - 1) ⟨by omega, by omega⟩ (by omega))
      · by_cases a2 : (f[hi - 1].toNat : Int) = 9
        · rw [hb, decide_eq_true (.inr a2), if_pos rfl] at hs
          rw [e, hs]
          exact Ev.if_neg a1 (Ev.if_pos a2 (ih (hi - 1) ⟨by omega, by omega⟩ (by omega)))
        · rw [hb, decide_eq_false (fun e => e.elim a1 a2), if_neg (by simp)] at hs
          exact Ev.if_neg a1 (Ev.if_neg a2 (hret (by rw [e]; exact hs)))
    · refine Ev.if_neg (by omega) (hret ?_)
      rw [List.drop_eq_nil_of_le (by rw [List.length_take]; omega)]; rfl) f.length ⟨hl, Nat.le_refl _⟩
  rw [List.take_length] at H
  exact H
theorem value_l1.ev (f : List UInt8) (hf : f.length ≤ 1099511627776) : Ev (fun k => usherlaw8_valueOf.l1 k (nat f) 0) (mk (rdropW (f.dropWhile wB))) := by
  have hn := nat_length f
  have H := Ev.loop (F := fun k (lo : Nat) => usherlaw8_valueOf.l1 k (nat f) (lo : Int)) (r := fun lo => mk (rdropW ((f.drop lo).dropWhile wB))) (fun lo => lo ≤ f.length) (fun lo => f.length - lo) (by
    intro lo hl ih
    simp only [usherlaw8_valueOf.l1]
    have hj : (f.drop lo).dropWhile wB = f.drop lo → Ev (fun k => usherlaw8_valueOf.j2 k (nat f) (lo : Int)) (mk (rdropW ((f.drop lo).dropWhile wB))) := fun e => by
      rw [e]
      refine Ev.step (f := fun k => usherlaw8_valueOf.l2 k (nat f) (lo : Int) ((nat f).length : Int)) (fun k => by rw [usherlaw8_valueOf.j2]) ?_
      rw [hn]; exact value_l2.ev f lo hf hl
    by_cases h : lo < f.length
    · refine Ev.if_pos (by omega) (Ev.if_pos (by omega) ?_)
      rw [rd_U f lo h, wrap64_of (by omega)]
      have hb := w_iff f[lo]
      have hd : (f.drop lo).dropWhile wB = if wB f[lo] = true then (f.drop (lo + 1)).dropWhile wB else f.drop lo := by
        rw [drop_get f h, List.dropWhile_cons]
      by_cases a1 : (f[lo].toNat : Int) = 32
      · rw [hb, decide_eq_true (.inl a1), if_pos rfl] at hd
        rw [hd]
        exact Ev.if_pos a1 (ih (lo + 1) (by omega) (by omega))
      · by_cases a2 : (f[lo].toNat : Int) = 9
        · rw [hb, decide_eq_true (.inr a2), if_pos rfl] at hd
          rw [hd]
          exact Ev.if_neg a1 (Ev.if_pos a2 (ih (lo + 1) (by omega) (by omega)))
        · rw [hb, decide_eq_false (fun e => e.elim a1 a2), if_neg (by simp)] at hd
          exact Ev.if_neg a1 (Ev.if_neg a2 (hj hd))
    · refine Ev.if_neg (by omega) (hj ?_)
      rw [List.drop_eq_nil_of_le (by omega)]; rfl) 0 (by omega)
  simpa using H
theorem valueOf.ev (s : ByteArray) (hs : s.size ≤ 1099511627776) : Ev (fun k => usherlaw8_valueOf.f k s) (mk (valueU (U s))) := by
  have hz := size_U s
  have H := Ev.loop (F := fun k (x : List UInt8 × Nat) => usherlaw8_valueOf.l0 k s (nat x.1) (x.2 : Int)) (r := fun x => mk (rdropW ((x.1 ++ ((U s).drop x.2).filter vlB).dropWhile wB))) (fun x => x.2 ≤ (U s).length ∧ x.1.length ≤ x.2) (fun x => (U s).length - x.2) (by
    rintro ⟨a, i⟩ ⟨hi, ha⟩ ih
    dsimp only at hi ha
    have hn := nat_length a
    simp only [usherlaw8_valueOf.l0]
    by_cases h : i < (U s).length
    · refine Ev.if_pos (by omega) (Ev.if_pos (by omega) ?_)
      rw [drop_get _ h]
      simp only [bt_U s i h]
      rw [wrap64_of (by omega)]
      generalize (U s)[i] = b at *
      have hv := vl_iff b
      have yes : vlB b = true → Ev (fun k => usherlaw8_valueOf.l0 k s (nat a ++ [(b.toNat : Int)]) ((i : Int) + 1)) (mk (rdropW ((a ++ (b :: (U s).drop (i + 1)).filter vlB).dropWhile wB))) := fun hb => by
        have := ih (a ++ [b], i + 1) ⟨by dsimp only; omega, by simp; omega⟩ (by dsimp only; omega)
        simp only [List.append_assoc, List.cons_append, List.nil_append, ← nat_snoc] at this
        rw [List.filter_cons, hb, if_pos rfl]
        exact this
      have no : vlB b = false → Ev (fun k => usherlaw8_valueOf.l0 k s (nat a) ((i : Int) + 1)) (mk (rdropW ((a ++ (b :: (U s).drop (i + 1)).filter vlB).dropWhile wB))) := fun hb => by
        have := ih (a, i + 1) ⟨by dsimp only; omega, by dsimp only; omega⟩ (by dsimp only; omega)
        rw [List.filter_cons, hb, if_neg (by simp)]
        exact this
      by_cases h1 : (b.toNat : Int) = 9
      · exact Ev.if_pos h1 (Ev.if_pos (by omega) (yes (by rw [hv]; exact decide_eq_true (.inl h1))))
      · refine Ev.if_neg h1 ?_
        by_cases h2 : (b.toNat : Int) ≥ 32
        · refine Ev.if_pos h2 ?_
          by_cases h3 : (b.toNat : Int) = 127
          · exact Ev.if_pos h3 (no (by rw [hv]; exact decide_eq_false (by omega)))
          · exact Ev.if_neg h3 (Ev.if_pos (by omega) (yes (by rw [hv]; exact decide_eq_true (.inr ⟨h2, h3⟩))))
        · exact Ev.if_neg h2 (no (by rw [hv]; exact decide_eq_false (by omega)))
    · refine Ev.if_neg (by omega) ?_
      rw [List.drop_eq_nil_of_le (by omega)]
      simpa using value_l1.ev a (by omega)) ([], 0) ⟨by dsimp only; omega, by simp⟩
  simpa [usherlaw8_valueOf.f, nat, valueU] using H
theorem rdropW_sub (l : List UInt8) : ∀ b ∈ rdropW l, b ∈ l := by
  intro b hb
  unfold rdropW at hb
  exact List.mem_reverse.1 ((List.dropWhile_sublist wB).subset (List.mem_reverse.1 hb))
theorem valueU_mem (l : List UInt8) : ∀ b ∈ valueU l, vlB b = true := by
  intro b hb
  have h1 := (List.dropWhile_sublist wB).subset (rdropW_sub _ b hb)
  exact (List.mem_filter.1 h1).2
theorem valueU_len (l : List UInt8) : (valueU l).length ≤ l.length := by
  unfold valueU rdropW
  rw [List.length_reverse]
  have h1 := (List.dropWhile_sublist wB (l := ((l.filter vlB).dropWhile wB).reverse)).length_le
  have h2 := (List.dropWhile_sublist wB (l := l.filter vlB)).length_le
  have h3 := List.length_filter_le vlB l
  rw [List.length_reverse] at h1
  omega
theorem dropWhile_head (l : List UInt8) : l.dropWhile wB = [] ∨ wB ((l.dropWhile wB).headD 0) = false := by
  induction l with
  | nil => exact .inl rfl
  | cons b l ih =>
    rw [List.dropWhile_cons]
    split
    · exact ih
    · rename_i h; exact .inr (by simpa using h)
theorem rdropW_last (l : List UInt8) : rdropW l = [] ∨ wB ((rdropW l).getLastD 0) = false := by
  rcases dropWhile_head l.reverse with h | h
  · exact .inl (by unfold rdropW; rw [h]; rfl)
  · refine .inr ?_
    unfold rdropW
    cases hc : l.reverse.dropWhile wB with
    | nil => decide +kernel
    | cons b m => rw [hc] at h; simpa using h
theorem rdropW_pre (l : List UInt8) : ∃ m, l = rdropW l ++ m := by
  unfold rdropW
  refine ⟨(l.reverse.takeWhile wB).reverse, ?_⟩
  rw [← List.reverse_append, List.takeWhile_append_dropWhile, List.reverse_reverse]
theorem valueU_val (l : List UInt8) : valU (valueU l) = true := by
  unfold valU
  by_cases h : valueU l = []
  · rw [if_pos h]
  · rw [if_neg h]
    have h1 : (valueU l).all (hasB 4) = true := by rw [List.all_eq_true]; exact valueU_mem l
    have h2 : hasB 8 ((valueU l).getLastD 0) = false := (rdropW_last ((l.filter vlB).dropWhile wB)).resolve_left h
    have h3 : hasB 8 ((valueU l).headD 0) = false := by
      obtain ⟨m, hm⟩ := rdropW_pre ((l.filter vlB).dropWhile wB)
      rcases dropWhile_head (l.filter vlB) with h4 | h4
      · exfalso; apply h; unfold valueU; rw [h4]; rfl
      · rw [hm] at h4
        have : (rdropW ((l.filter vlB).dropWhile wB) ++ m).headD 0 = (valueU l).headD 0 := by
          cases hc : rdropW ((l.filter vlB).dropWhile wB) with
          | nil => exact absurd hc h
          | cons a r => unfold valueU; rw [hc]; rfl
        rw [this] at h4; exact h4
    rw [h1, h2, h3]; rfl
end Go.Proofs.YtdlfdmbaejhaaaaDoor.Q
