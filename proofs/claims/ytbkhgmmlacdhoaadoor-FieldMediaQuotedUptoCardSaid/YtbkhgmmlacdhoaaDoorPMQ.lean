/- FieldMediaQuoted answers true. Conditions: what goes in has at most 1048576 bytes in all. -/
import Derived.Test.YtbkhgmmlacdhoaaDoorQ3
import Derived.Test.YtbkhgmmlacdhoaaDoorMediaF
import Derived.Test.YtbkhgmmlacdhoaaDoorNum
set_option linter.unusedVariables false
set_option linter.unusedSimpArgs false
namespace Go.Proofs.YtbkhgmmlacdhoaaDoor.Q
open Go.RowKit Go.Proofs.YtbkhgmmlacdhoaaDoorW.PrintWords Go.Proofs.YtbkhgmmlacdhoaaDoorW.PrintLast Go.Proofs.YtbkhgmmlacdhoaaDoorW.PrintMore
theorem wrapZ {x y : Int} (h : x = y) (r : -9223372036854775808 ≤ y ∧ y ≤ 9223372036854775807) : wrap64 x = y := by subst h; exact wrap64_of r
theorem wrapN (n : Nat) (h : n < 9223372036854775807) : wrap64 ((n : Int) + 1) = ((n + 1 : Nat) : Int) := wrapZ (by omega) (by omega)
theorem is_bt (s : ByteArray) (i : Int) (k : Int) : field_is.f (bt s i) k = some (isB k (bt s i)) := isB_some _ _ (bt_range s i).1 (bt_range s i).2
theorem field_all.ev (s : ByteArray) (a : Int) (hs : s.size ≤ 140737488351232) : Ev (fun k => field_all.f k s a) ((bytesOf s).all (isB a)) := by
  have hl := bytesOf_length s
  have H : ∀ (d i : Nat), i + d = s.size → Ev (fun k => field_all.l0 k s a (s.size : Int) (i : Int)) (((bytesOf s).drop i).all (isB a)) := by
    intro d
    induction d with
    | zero =>
      intro i hi
      refine Ev.step (f := fun _ => some true) (fun k => by rw [field_all.l0, if_neg (by omega)]) ?_
      rw [List.drop_eq_nil_of_le (by omega)]
      exact Ev.now _
    | succ d ih =>
      intro i hi
      refine Ev.step (fun k => rfl) ?_
      simp only [field_all.l0, is_bt, Option.bind_some, wrapN i (by omega)]
      refine Ev.if_pos (by omega) (Ev.if_pos (by omega) (Ev.if_pos (by omega) ?_))
      rw [drop_cons (bytesOf s) i 0 (by omega), List.all_cons, ← bt_nat]
      cases isB a (bt s (i : Int))
      · exact Ev.if_neg (by simp) (Ev.now _)
      · exact Ev.if_pos rfl (ih (i + 1) (by omega))
  simpa [field_all.f] using H s.size 0 (by omega)
def tokL (l : List Int) : Bool := !l.isEmpty && l.all (isB 1)
theorem Token.ev (s : ByteArray) (hs : s.size ≤ 140737488351232) : Ev (fun k => field_Token.f k s) (tokL (bytesOf s)) := by
  simp only [field_Token.f]
  unfold tokL
  by_cases hn : s.toList = []
  · rw [toList_nil.1 hn]
    exact Ev.if_pos hn (Ev.now _)
  · have : (bytesOf s).isEmpty = false := by simpa using fun h => hn (toList_nil.2 h)
    rw [this]
    refine Ev.if_neg hn ?_
    simpa using (field_all.ev s 1 hs).bind (f := fun _ t => some t) (Ev.now _)
/-! ### Media on lists -/
def quotR : List Int → Option (List Int)
  | [] => none
  | [c] => if c = 34 then some [] else none
  | c :: d :: r => if c = 34 then some (d :: r) else if c = 92 then (if isB 4 d = true then quotR r else none) else if isB 4 c = true then quotR (d :: r) else none
theorem quot_key : ∀ (n : Nat) (l : List Int), l.length ≤ n → quotR l = if (quotedL l).1 = true then some (l.drop (quotedL l).2) else none := by
  intro n
  induction n with
  | zero => intro l h; cases l with
    | nil => rfl
    | cons a l => simp at h
  | succ n ih =>
    intro l h
    match l, h with
    | [], _ => rfl
    | [c], _ =>
      unfold quotR quotedL
      by_cases hc : c = 34
      · rw [if_pos hc, if_pos hc]; rfl
      · rw [if_neg hc, if_neg hc]; rfl
    | c :: d :: r, h =>
      simp only [List.length_cons] at h
      have h1 := ih r (by omega)
      have h2 := ih (d :: r) (by simp only [List.length_cons]; omega)
      unfold quotR quotedL
      by_cases hc : c = 34
      · rw [if_pos hc, if_pos hc]; rfl
      · rw [if_neg hc, if_neg hc]
        by_cases hs : c = 92
        · rw [if_pos hs, if_pos hs]
          cases hb : isB 4 d
          · rfl
          · simp only [if_true]
            rw [h1]
            cases (quotedL r).1 <;> rfl
        · rw [if_neg hs, if_neg hs]
          cases hb : isB 4 c
          · rfl
          · simp only [if_true]
            rw [h2]
            cases (quotedL (d :: r)).1 <;> rfl
def parR (l : List Int) : Option (List Int) :=
  if l.takeWhile (isB 1) = [] then none else match l.dropWhile (isB 1) with
    | [] => none
    | c :: r => if c = 61 then (match r with
      | [] => none
      | d :: r2 => if d = 34 then quotR r2 else if (d :: r2).takeWhile (isB 1) = [] then none else some ((d :: r2).dropWhile (isB 1))) else none
def parsR : Nat → List Int → Bool
  | 0, _ => false
  | f + 1, l => if l = [] then true else match l.dropWhile (isB 8) with
    | [] => false
    | c :: r => if c = 59 then (match r.dropWhile (isB 8) with
      | [] => parsR f []
      | d :: r2 => if isB 1 d = true then (match parR (d :: r2) with
        | none => false
        | some r3 => parsR f r3) else parsR f (d :: r2)) else false
def medR (l : List Int) : Option (List Int) :=
  if l.takeWhile (isB 1) = [] then none else match l.dropWhile (isB 1) with
    | [] => none
    | c :: r => if c = 47 then (if r.takeWhile (isB 1) = [] then none else if parsR (l.length + 1) (r.dropWhile (isB 1)) = true then some (l.takeWhile (isB 1) ++ 47 :: r.takeWhile (isB 1)) else none) else none
/-! ### the same by places -/
theorem drop_tw (p : Int → Bool) (l : List Int) : l.drop (l.takeWhile p).length = l.dropWhile p ∧ l.take (l.takeWhile p).length = l.takeWhile p := by
  induction l with
  | nil => exact ⟨rfl, rfl⟩
  | cons a l ih =>
    by_cases h : p a = true
    · rw [List.takeWhile_cons, if_pos h, List.dropWhile_cons, if_pos h, List.length_cons, List.drop_succ_cons, List.take_succ_cons, ih.1, ih.2]; exact ⟨rfl, rfl⟩
    · rw [List.takeWhile_cons, if_neg h, List.dropWhile_cons, if_neg h]; exact ⟨rfl, rfl⟩
theorem tw_mem {p : Int → Bool} {l : List Int} {x : Int} (h : x ∈ l.takeWhile p) : p x = true := by
  induction l with
  | nil => simp at h
  | cons a l ih =>
    rw [List.takeWhile_cons] at h
    split at h
    · rcases List.mem_cons.1 h with rfl | h
      · assumption
      · exact ih h
    · simp at h
theorem run_drop (s : ByteArray) (k : Int) (i : Nat) : (bytesOf s).drop (runTo s k i) = ((bytesOf s).drop i).dropWhile (isB k) := by
  unfold runTo
  rw [← List.drop_drop]
  exact (drop_tw _ _).1
theorem run_same (s : ByteArray) (k : Int) (i : Nat) : runTo s k i = i ↔ ((bytesOf s).drop i).takeWhile (isB k) = [] := by
  unfold runTo
  rw [← List.length_eq_zero_iff]; omega
theorem at_cons (s : ByteArray) (i : Nat) {c : Int} {r : List Int} (h : (bytesOf s).drop i = c :: r) : i < s.size ∧ bt s (i : Int) = c ∧ (bytesOf s).drop (i + 1) = r := by
  have hl := bytesOf_length s
  have hlt : i < (bytesOf s).length := by
    rcases Nat.lt_or_ge i (bytesOf s).length with h' | h'
    · exact h'
    · rw [List.drop_eq_nil_of_le h'] at h; cases h
  have hd := drop_cons (bytesOf s) i 0 hlt
  rw [h] at hd
  injection hd with h1 h2
  exact ⟨by omega, by rw [bt_nat, h1], h2.symm⟩
theorem at_nil (s : ByteArray) (i : Nat) (h : (bytesOf s).drop i = []) : s.size ≤ i := by
  have hl := bytesOf_length s
  have := List.drop_eq_nil_iff.1 h
  omega
theorem par_key (s : ByteArray) (i : Nat) (hi : i ≤ s.size) : parR ((bytesOf s).drop i) = if (paramP s i).1 = true then some ((bytesOf s).drop (paramP s i).2) else none := by
  unfold parR paramP
  by_cases h0 : runTo s 1 i = i
  · rw [if_pos ((run_same s 1 i).1 h0), if_pos h0]; rfl
  · rw [if_neg (fun h => h0 ((run_same s 1 i).2 h)), if_neg h0, ← run_drop]
    have hle := runTo_le s 1 i hi
    generalize runTo s 1 i = p at *
    cases hd : (bytesOf s).drop p with
    | nil =>
      have := at_nil s p hd
      have hn : ¬ (p < s.size ∧ bt s (p : Int) = 61) := by omega
      rw [if_neg hn]; rfl
    | cons c r =>
      obtain ⟨hlt, hb, hr⟩ := at_cons s p hd
      dsimp only
      by_cases h61 : c = 61
      · have hy : p < s.size ∧ bt s (p : Int) = 61 := ⟨hlt, by rw [hb, h61]⟩
        rw [if_pos h61, if_pos hy]
        cases r with
        | nil =>
          have := at_nil s (p + 1) hr
          have hn : ¬ (p + 1 < s.size ∧ bt s ((p + 1 : Nat) : Int) = 34) := by omega
          have hz : runTo s 1 (p + 1) = p + 1 := (run_same s 1 (p + 1)).2 (by rw [hr]; rfl)
          rw [if_neg hn]
          dsimp only
          rw [hz]; simp
        | cons d r2 =>
          obtain ⟨hlt2, hb2, hr2⟩ := at_cons s (p + 1) hr
          dsimp only
          by_cases h34 : d = 34
          · have hy2 : p + 1 < s.size ∧ bt s ((p + 1 : Nat) : Int) = 34 := ⟨hlt2, by rw [hb2, h34]⟩
            rw [if_pos h34, if_pos hy2, quot_key _ r2 (Nat.le_refl _), hr2]
            dsimp only
            rw [← List.drop_drop, hr2]
          · have hn : ¬ (p + 1 < s.size ∧ bt s ((p + 1 : Nat) : Int) = 34) := fun h => h34 (by rw [← hb2]; exact h.2)
            rw [if_neg h34, if_neg hn]
            dsimp only
            by_cases hz : runTo s 1 (p + 1) = p + 1
            · have := (run_same s 1 (p + 1)).1 hz
              rw [hr] at this
              rw [if_pos this, hz]; simp
            · have h3 : ¬ (d :: r2).takeWhile (isB 1) = [] := fun h => hz ((run_same s 1 (p + 1)).2 (by rw [hr]; exact h))
              rw [if_neg h3, run_drop, hr]; simp [hz]
      · have hn : ¬ (p < s.size ∧ bt s (p : Int) = 61) := fun h => h61 (by rw [← hb]; exact h.2)
        rw [if_neg h61, if_neg hn]; rfl
theorem qL_le : ∀ (n : Nat) (l : List Int), l.length ≤ n → (quotedL l).2 ≤ l.length := by
  intro n
  induction n with
  | zero => intro l h; cases l with
    | nil => exact Nat.le_refl _
    | cons a l => simp at h
  | succ n ih =>
    intro l h
    cases l with
    | nil => exact Nat.le_refl _
    | cons c l =>
      cases l with
      | nil => unfold quotedL; split <;> simp
      | cons d r =>
        simp only [List.length_cons] at h
        have h1 := ih r (by omega)
        have h2 := ih (d :: r) (by simp only [List.length_cons]; omega)
        simp only [List.length_cons] at h2
        unfold quotedL
        simp only [List.length_cons]
        repeat' split
        all_goals dsimp only
        all_goals omega
theorem parP_le (s : ByteArray) (i : Nat) (hi : i ≤ s.size) : (paramP s i).2 ≤ s.size := by
  have hl := bytesOf_length s
  unfold paramP
  split
  · exact hi
  · split
    · rename_i h
      split
      · rename_i h34
        have := qL_le _ ((bytesOf s).drop (runTo s 1 i + 1 + 1)) (Nat.le_refl _)
        rw [List.length_drop] at this
        dsimp only; omega
      · exact runTo_le s 1 _ (by omega)
    · exact hi
theorem pars_key (s : ByteArray) : ∀ (f i : Nat), i ≤ s.size → parsR f ((bytesOf s).drop i) = paramsF f s i := by
  have hl := bytesOf_length s
  intro f
  induction f with
  | zero => intro i _; rfl
  | succ f ih =>
    intro i hi
    show (if (bytesOf s).drop i = [] then true else _) = (if s.size ≤ i then true else _)
    by_cases h : s.size ≤ i
    · rw [if_pos h, if_pos (List.drop_eq_nil_of_le (by omega))]
    · have hne : (bytesOf s).drop i ≠ [] := fun h' => h (at_nil s i h')
      rw [if_neg h, if_neg hne, ← run_drop]
      have hle := runTo_le s 8 i hi
      generalize runTo s 8 i = p at *
      cases hd : (bytesOf s).drop p with
      | nil =>
        have := at_nil s p hd
        have hn : ¬ (p < s.size ∧ bt s (p : Int) = 59) := by omega
        rw [if_neg hn]
      | cons c r =>
        obtain ⟨hlt, hb, hr⟩ := at_cons s p hd
        dsimp only
        by_cases h59 : c = 59
        · have hy : p < s.size ∧ bt s (p : Int) = 59 := ⟨hlt, by rw [hb, h59]⟩
          rw [if_pos h59, if_pos hy, ← hr, ← run_drop]
          have hle2 := runTo_le s 8 (p + 1) (by omega)
          generalize runTo s 8 (p + 1) = q at *
          have hq := ih q hle2
          cases hd2 : (bytesOf s).drop q with
          | nil =>
            have := at_nil s q hd2
            have hn : ¬ (q < s.size ∧ isB 1 (bt s (q : Int)) = true) := by omega
            rw [if_neg hn, ← hq, hd2]
          | cons d r2 =>
            obtain ⟨hlt2, hb2, hr2⟩ := at_cons s q hd2
            dsimp only
            by_cases ht : isB 1 d = true
            · have hy2 : q < s.size ∧ isB 1 (bt s (q : Int)) = true := ⟨hlt2, by rw [hb2]; exact ht⟩
              rw [if_pos ht, if_pos hy2, ← hd2, par_key s q hle2]
              by_cases hP : (paramP s q).1 = true
              · rw [if_pos hP, if_pos hP]
                exact ih _ (parP_le s q hle2)
              · rw [if_neg hP, if_neg hP]
            · have hn : ¬ (q < s.size ∧ isB 1 (bt s (q : Int)) = true) := fun h => ht (by rw [← hb2]; exact h.2)
              rw [if_neg ht, if_neg hn, ← hq, hd2]
        · have hn : ¬ (p < s.size ∧ bt s (p : Int) = 59) := fun h => h59 (by rw [← hb]; exact h.2)
          rw [if_neg h59, if_neg hn]
def lowS (s : ByteArray) : ByteArray := strOfNums ((bytesOf s).map lowI)
theorem lowI_range {c : Int} (h : 0 ≤ c ∧ c ≤ 255) : 0 ≤ lowI c ∧ lowI c ≤ 255 := by
  unfold lowI; split
  · split <;> omega
  · omega
theorem bytes_low (l : List Int) (h : ∀ x ∈ l, 0 ≤ x ∧ x ≤ 255) : bytesOf (strOfNums (l.map lowI)) = l.map lowI := by
  refine bytesOf_strOfNums ?_
  intro x hx
  obtain ⟨c, hc, rfl⟩ := List.mem_map.1 hx
  exact lowI_range (h c hc)
theorem take_run (s : ByteArray) (k : Int) (i : Nat) (hi : i ≤ s.size) : ((bytesOf s).take (runTo s k i)).drop i = ((bytesOf s).drop i).takeWhile (isB k) := by
  unfold runTo
  rw [List.drop_take, Nat.add_sub_cancel_left]
  exact (drop_tw _ _).2
def medV (md : Option (List Int)) : ByteArray × Option Int := match md with | none => ((⟨#[]⟩ : ByteArray), some 2) | some h => (strOfNums (h.map lowI), none)
/-- What Media answers, by lists. -/
theorem Media_lists (s : ByteArray) (hs : s.size ≤ 140737488351232) : field_Media.f s = some (medV (medR (bytesOf s))) := by
  have hl := bytesOf_length s
  have hK : (match mediaK s with | none => none | some (p, q) => some ((bytesOf s).take p ++ 47 :: ((bytesOf s).take q).drop (p + 1))) = medR (bytesOf s) ∧ ∀ p q, mediaK s = some (p, q) → p + 1 ≤ q ∧ q ≤ s.size ∧ p < s.size := by
    unfold mediaK medR
    have h00 : (bytesOf s).drop 0 = bytesOf s := List.drop_zero
    have hrd := run_drop s 1 0
    have hrs := run_same s 1 0
    have htk := take_run s 1 0 (Nat.zero_le _)
    rw [h00] at hrd hrs htk
    rw [List.drop_zero] at htk
    have hle := runTo_le s 1 0 (Nat.zero_le _)
    generalize runTo s 1 0 = p at *
    by_cases h0 : p = 0
    · rw [if_pos h0, if_pos (hrs.1 h0)]
      exact ⟨rfl, fun _ _ h => by cases h⟩
    · rw [if_neg h0, if_neg (fun h => h0 (hrs.2 h)), ← hrd]
      cases hd : (bytesOf s).drop p with
      | nil =>
        have := at_nil s p hd
        have hn : ¬ (p < s.size ∧ bt s (p : Int) = 47) := by omega
        rw [if_neg hn]
        exact ⟨rfl, fun _ _ h => by cases h⟩
      | cons c r =>
        obtain ⟨hlt, hb, hr⟩ := at_cons s p hd
        dsimp only
        by_cases h47 : c = 47
        · have hy : p < s.size ∧ bt s (p : Int) = 47 := ⟨hlt, by rw [hb, h47]⟩
          rw [if_pos h47, if_pos hy]
          have hrd2 := run_drop s 1 (p + 1)
          have hrs2 := run_same s 1 (p + 1)
          have htk2 := take_run s 1 (p + 1) (by omega)
          rw [hr] at hrd2 hrs2 htk2
          have hle2 := runTo_le s 1 (p + 1) (by omega)
          have hge2 := runTo_ge s 1 (p + 1)
          generalize runTo s 1 (p + 1) = q at *
          by_cases hz : q = p + 1
          · rw [if_pos hz, if_pos (hrs2.1 hz)]
            exact ⟨rfl, fun _ _ h => by cases h⟩
          · rw [if_neg hz, if_neg (fun h => hz (hrs2.2 h)), ← hrd2, pars_key s _ q hle2, hl]
            by_cases hp : paramsF (s.size + 1) s q = true
            · rw [if_pos hp, if_pos hp]
              refine ⟨?_, fun p' q' h => ?_⟩
              · dsimp only
                rw [← htk, ← htk2]
              · simp only [Option.some.injEq, Prod.mk.injEq] at h
                obtain ⟨rfl, rfl⟩ := h
                omega
            · rw [if_neg hp, if_neg hp]
              exact ⟨rfl, fun _ _ h => by cases h⟩
        · have hn : ¬ (p < s.size ∧ bt s (p : Int) = 47) := fun h => h47 (by rw [← hb]; exact h.2)
          rw [if_neg h47, if_neg hn]
          exact ⟨rfl, fun _ _ h => by cases h⟩
  rw [← hK.1]
  unfold field_Media.f
  rw [if_pos hs]
  cases hm : mediaK s with
  | none => rfl
  | some x =>
    obtain ⟨p, q⟩ := x
    obtain ⟨h1, h2, h3⟩ := hK.2 p q hm
    simp only [medV]
    have z1 : (s.extract 0 p).size ≤ 140737488351232 := by rw [ByteArray.size_extract]; omega
    have z2 : (s.extract (p + 1) q).size ≤ 140737488351232 := by rw [ByteArray.size_extract]; omega
    have hlow : ∀ t : ByteArray, t.size ≤ 140737488351232 → field_low.f t = some (lowS t) := fun t h => by unfold field_low.f lowS; rw [if_pos h]
    have hbl : ∀ t : ByteArray, bytesOf (lowS t) = (bytesOf t).map lowI := fun t => bytes_low _ (fun x hx => bytesOf_range hx)
    have hsz : ∀ t : ByteArray, (lowS t).size = t.size := fun t => by rw [size_eq, hbl, List.length_map, ← size_eq]
    rw [hlow _ z1, hlow _ z2, Option.bind_some, Option.bind_some, if_pos (by rw [hsz, hsz, ByteArray.size_extract, ByteArray.size_extract]; omega)]
    congr 2
    refine ext_bytes ?_
    have hr : ∀ x ∈ (bytesOf s).take p ++ 47 :: ((bytesOf s).take q).drop (p + 1), 0 ≤ x ∧ x ≤ 255 := by
      intro x hx
      rcases List.mem_append.1 hx with hx | hx
      · exact bytesOf_range (List.mem_of_mem_take hx)
      · rcases List.mem_cons.1 hx with rfl | hx
        · omega
        · exact bytesOf_range (List.mem_of_mem_take (List.mem_of_mem_drop hx))
    rw [bytes_low _ hr, bytesOf_append, bytesOf_append, hbl, hbl, bytesOf_extract, bytesOf_extract, List.drop_zero, List.map_append, List.map_cons]
    have e : bytesOf (⟨#[47]⟩ : ByteArray) = [lowI 47] := by decide
    rw [e, List.append_assoc]; rfl
/-! ### what the law's own functions answer -/
theorem isB_facts : isB 1 47 = false ∧ isB 1 32 = false ∧ isB 1 59 = false ∧ isB 1 61 = false ∧ isB 1 34 = false ∧ isB 8 59 = false ∧ isB 8 47 = false ∧ isB 8 32 = true ∧ isB 8 9 = true ∧ isB 4 34 = true ∧ isB 4 92 = true ∧ isB 1 97 = true := by decide +kernel
theorem tok_at : ∀ c : Fin 256, isB 1 (c.val : Int) = true → isB 8 (c.val : Int) = false ∧ (c.val : Int) ≠ 34 ∧ (c.val : Int) ≠ 92 ∧ (c.val : Int) ≠ 59 ∧ isB 4 (c.val : Int) = true ∧ isB 1 (lowI (c.val : Int)) = true := by decide +kernel
theorem tok_of {c : Int} (h : 0 ≤ c ∧ c ≤ 255) (ht : isB 1 c = true) : isB 8 c = false ∧ c ≠ 34 ∧ c ≠ 92 ∧ c ≠ 59 ∧ isB 4 c = true ∧ isB 1 (lowI c) = true := by
  have := tok_at ⟨c.toNat, by omega⟩
  simp only [Int.toNat_of_nonneg h.1] at this
  exact this ht
theorem white_at : ∀ c : Fin 256, isB 8 (c.val : Int) = (decide ((c.val : Int) = 32) || decide ((c.val : Int) = 9)) := by decide +kernel
theorem white_of {c : Int} (h : 0 ≤ c ∧ c ≤ 255) : isB 8 c = (decide (c = 32) || decide (c = 9)) := by
  have := white_at ⟨c.toNat, by omega⟩
  simpa only [Int.toNat_of_nonneg h.1] using this
theorem val_at : ∀ c : Fin 256, isB 4 (c.val : Int) = decide ((c.val : Int) = 9 ∨ (32 ≤ (c.val : Int) ∧ (c.val : Int) ≠ 127)) := by decide +kernel
theorem val_of {c : Int} (h : 0 ≤ c ∧ c ≤ 255) : isB 4 c = decide (c = 9 ∨ (32 ≤ c ∧ c ≠ 127)) := by
  have := val_at ⟨c.toNat, by omega⟩
  simpa only [Int.toNat_of_nonneg h.1] using this
theorem low_at : ∀ c : Fin 256, lowI (lowI (c.val : Int)) = lowI (c.val : Int) := by decide +kernel
theorem low_low {c : Int} (h : 0 ≤ c ∧ c ≤ 255) : lowI (lowI c) = lowI c := by
  have := low_at ⟨c.toNat, by omega⟩
  simpa only [Int.toNat_of_nonneg h.1] using this
def escI (c : Int) : List Int := if c = 34 ∨ c = 92 then [92, c] else [c]
def escS (l : List Int) : List Int := l.flatMap escI
theorem escS_cons (c : Int) (l : List Int) : escS (c :: l) = escI c ++ escS l := by simp [escS]
theorem escS_len (l : List Int) : (escS l).length ≤ 2 * l.length := by
  induction l with
  | nil => simp [escS]
  | cons c l ih =>
    rw [escS_cons, List.length_append, List.length_cons]
    have : (escI c).length ≤ 2 := by unfold escI; split <;> simp
    omega
theorem quoted.ev (s : ByteArray) (hs : s.size ≤ 1099511627776) : Ev (fun k => usherlaw6_quoted.f k s) (if (bytesOf s).all (isB 4) = true then (strOfNums (34 :: (escS (bytesOf s) ++ [34])), true) else ((⟨#[]⟩ : ByteArray), false)) := by
  have hl := bytesOf_length s
  have H : ∀ (d i : Nat) (acc : List Int), i + d = s.size → acc.length ≤ 2 * i + 1 → Ev (fun k => usherlaw6_quoted.l0 k s acc (i : Int)) (if ((bytesOf s).drop i).all (isB 4) = true then (strOfNums (acc ++ (escS ((bytesOf s).drop i) ++ [34])), true) else ((⟨#[]⟩ : ByteArray), false)) := by
    intro d
    induction d with
    | zero =>
      intro i acc hi ha
      refine Ev.step (fun k => rfl) ?_
      simp only [usherlaw6_quoted.l0]
      rw [List.drop_eq_nil_of_le (by omega)]
      refine Ev.if_neg (by omega) (Ev.if_pos (by omega) (Ev.now _))
    | succ d ih =>
      intro i acc hi ha
      have hb := bt_range s (i : Int)
      have hd : (bytesOf s).drop i = bt s (i : Int) :: (bytesOf s).drop (i + 1) := by rw [bt_nat]; exact drop_cons _ i 0 (by omega)
      rw [hd, List.all_cons, escS_cons, val_of hb]
      refine Ev.step (fun k => rfl) ?_
      simp only [usherlaw6_quoted.l0]
      refine Ev.if_pos (by omega) (Ev.if_pos (by omega) ?_)
      have hn := fun x : List Int => ih (i + 1) (acc ++ x) (by omega)
      generalize bt s (i : Int) = c at *
      have hno : Ev (fun k => usherlaw6_quoted.j1 k s acc (i : Int) c true) ((⟨#[]⟩ : ByteArray), false) := Ev.step (f := fun _ => some ((⟨#[]⟩ : ByteArray), false)) (fun k => by rw [usherlaw6_quoted.j1, if_pos rfl]) (Ev.now _)
      have hyes : (c = 9 ∨ (32 ≤ c ∧ c ≠ 127)) → Ev (fun k => usherlaw6_quoted.j1 k s acc (i : Int) c false) (if (decide (c = 9 ∨ (32 ≤ c ∧ c ≠ 127)) && ((bytesOf s).drop (i + 1)).all (isB 4)) = true then (strOfNums (acc ++ (escI c ++ escS ((bytesOf s).drop (i + 1)) ++ [34])), true) else ((⟨#[]⟩ : ByteArray), false)) := by
        intro hv
        rw [decide_eq_true hv, Bool.true_and]
        refine Ev.step (fun k => rfl) ?_
        simp only [usherlaw6_quoted.j1, wrapN i (by omega), Option.bind_some, List.length_append, List.length_cons, List.length_nil, List.append_assoc, List.cons_append, List.nil_append]
        refine Ev.if_neg (by simp) ?_
        by_cases h34 : c = 34
        · have e : escI c = [92, c] := by unfold escI; rw [if_pos (Or.inl h34)]
          rw [e]
          refine Ev.if_pos h34 (Ev.if_pos (by omega) (Ev.if_pos (by omega) ?_))
          simpa using hn [92, c] (by simp; omega)
        · refine Ev.if_neg h34 ?_
          by_cases h92 : c = 92
          · have e : escI c = [92, c] := by unfold escI; rw [if_pos (Or.inr h92)]
            rw [e]
            refine Ev.if_pos h92 (Ev.if_pos (by omega) (Ev.if_pos (by omega) ?_))
            simpa using hn [92, c] (by simp; omega)
          · have e : escI c = [c] := by unfold escI; rw [if_neg (fun h => h.elim h34 h92)]
            rw [e]
            refine Ev.if_neg h92 (Ev.if_pos (by omega) ?_)
            simpa using hn [c] (by simp; omega)
      by_cases h32 : c < 32
      · refine Ev.if_pos h32 ?_
        by_cases h9 : c = 9
        · have hv : c = 9 ∨ (32 ≤ c ∧ c ≠ 127) := Or.inl h9
          refine Ev.if_pos h9 ?_
          rw [show (c == 127) = false by rw [beq_eq_false_iff_ne]; omega]
          exact hyes hv
        · refine Ev.if_neg h9 ?_
          rw [decide_eq_false (show ¬ (c = 9 ∨ (32 ≤ c ∧ c ≠ 127)) by omega), Bool.false_and, if_neg (by simp)]
          exact hno
      · refine Ev.if_neg h32 ?_
        by_cases h127 : c = 127
        · rw [show (c == 127) = true by rw [beq_iff_eq]; exact h127, decide_eq_false (show ¬ (c = 9 ∨ (32 ≤ c ∧ c ≠ 127)) by omega), Bool.false_and, if_neg (by simp)]
          exact hno
        · rw [show (c == 127) = false by rw [beq_eq_false_iff_ne]; exact h127]
          exact hyes (by omega)
  have := H s.size 0 [34] (by omega) (by simp)
  rw [List.drop_zero] at this
  simp only [usherlaw6_quoted.f]
  refine Ev.if_pos (by simp) ?_
  simpa using this
theorem lower6_at : ∀ c : Fin 256, (if (c.val : Int) ≥ 65 then (if (c.val : Int) ≤ 90 then ((c.val : Int) - 65 + 97) % 256 else (c.val : Int)) else (c.val : Int)) = lowI (c.val : Int) := by decide +kernel
theorem lower6_of {c : Int} (h : 0 ≤ c ∧ c ≤ 255) : (if c ≥ 65 then (if c ≤ 90 then (c - 65 + 97) % 256 else c) else c) = lowI c := by
  have := lower6_at ⟨c.toNat, by omega⟩
  simpa only [Int.toNat_of_nonneg h.1] using this
theorem lower6.ev (s : ByteArray) (hs : s.size ≤ 1099511627776) : Ev (fun k => usherlaw6_lower.f k s) (strOfNums ((bytesOf s).map lowI)) := by
  have hl := bytesOf_length s
  have H : ∀ (d i : Nat) (acc : List Int), i + d = s.size → acc.length ≤ i → Ev (fun k => usherlaw6_lower.l0 k s acc (i : Int)) (strOfNums (acc ++ ((bytesOf s).drop i).map lowI)) := by
    intro d
    induction d with
    | zero =>
      intro i acc hi ha
      refine Ev.step (f := fun _ => some (strOfNums acc)) (fun k => by rw [usherlaw6_lower.l0, if_neg (by omega)]) ?_
      rw [List.drop_eq_nil_of_le (by omega)]
      simpa using Ev.now _
    | succ d ih =>
      intro i acc hi ha
      have hb := bt_range s (i : Int)
      have hd : (bytesOf s).drop i = bt s (i : Int) :: (bytesOf s).drop (i + 1) := by rw [bt_nat]; exact drop_cons _ i 0 (by omega)
      rw [hd, List.map_cons, ← lower6_of hb]
      refine Ev.step (fun k => rfl) ?_
      simp only [usherlaw6_lower.l0, wrapN i (by omega)]
      refine Ev.if_pos (by omega) (Ev.if_pos (by omega) ?_)
      have hn := fun x : Int => ih (i + 1) (acc ++ [x]) (by omega) (by simp; omega)
      simp only [List.append_assoc, List.cons_append, List.nil_append] at hn
      generalize bt s (i : Int) = c at *
      by_cases h1 : c ≥ 65
      · by_cases h2 : c ≤ 90
        · rw [if_pos h1, if_pos h2]
          exact Ev.if_pos h1 (Ev.if_pos h2 (Ev.if_pos (by omega) (hn _)))
        · rw [if_pos h1, if_neg h2]
          exact Ev.if_pos h1 (Ev.if_neg h2 (Ev.if_pos (by omega) (hn _)))
      · rw [if_neg h1]
        exact Ev.if_neg h1 (Ev.if_pos (by omega) (hn _))
  have := H s.size 0 [] (by omega) (by simp)
  simpa [usherlaw6_lower.f] using this
/-- What broken answers. -/
def brkL (T S : List Int) : Bool := if tokL T = true then (match S.dropWhile (isB 1) with
    | [] => S.isEmpty
    | c :: _ => (S.takeWhile (isB 1)).isEmpty || (decide (c ≠ 59) && decide (c ≠ 32) && decide (c ≠ 9))) else T.all (fun c => decide (c ≠ 59))
theorem broken.ev (a b : ByteArray) (ha : a.size ≤ 1099511627776) (hb : b.size ≤ 1099511627776) : Ev (fun k => usherlaw6_broken.f k a b) (brkL (bytesOf a) (bytesOf b)) := by
  have hla := bytesOf_length a
  have hlb := bytesOf_length b
  have H0 : ∀ (d i : Nat), i + d = a.size → Ev (fun k => usherlaw6_broken.l0 k a (i : Int)) (((bytesOf a).drop i).all (fun c => decide (c ≠ 59))) := by
    intro d
    induction d with
    | zero =>
      intro i hi
      refine Ev.step (f := fun _ => some true) (fun k => by rw [usherlaw6_broken.l0, if_neg (by omega)]) ?_
      rw [List.drop_eq_nil_of_le (by omega)]
      exact Ev.now _
    | succ d ih =>
      intro i hi
      have hd : (bytesOf a).drop i = bt a (i : Int) :: (bytesOf a).drop (i + 1) := by rw [bt_nat]; exact drop_cons _ i 0 (by omega)
      rw [hd, List.all_cons]
      refine Ev.step (fun k => rfl) ?_
      simp only [usherlaw6_broken.l0, wrapN i (by omega)]
      refine Ev.if_pos (by omega) (Ev.if_pos (by omega) ?_)
      by_cases h : bt a (i : Int) = 59
      · refine Ev.eq (Ev.if_pos h (Ev.now _)) ?_
        rw [h]; simp
      · refine Ev.eq (Ev.if_neg h (ih (i + 1) (by omega))) ?_
        rw [decide_eq_true h, Bool.true_and]
  have H1 : ∀ (d i : Nat), i + d = b.size → ((bytesOf b).take i).all (isB 1) = true → Ev (fun k => usherlaw6_broken.l1 k b (i : Int)) (match ((bytesOf b).drop i).dropWhile (isB 1) with
    | [] => (bytesOf b).isEmpty
    | c :: _ => decide (i + (((bytesOf b).drop i).takeWhile (isB 1)).length = 0) || (decide (c ≠ 59) && decide (c ≠ 32) && decide (c ≠ 9))) := by
    intro d
    induction d with
    | zero =>
      intro i hi _
      refine Ev.step (f := fun _ => some (b.toList == ([] : List UInt8))) (fun k => by rw [usherlaw6_broken.l1, if_neg (by omega)]) ?_
      rw [List.drop_eq_nil_of_le (by omega)]
      refine Ev.eq (Ev.now _) ?_
      rw [Bool.eq_iff_iff]; simp [toList_nil]
    | succ d ih =>
      intro i hi hall
      have hd : (bytesOf b).drop i = bt b (i : Int) :: (bytesOf b).drop (i + 1) := by rw [bt_nat]; exact drop_cons _ i 0 (by omega)
      have htk : (bytesOf b).take (i + 1) = (bytesOf b).take i ++ [bt b (i : Int)] := by rw [bt_nat]; exact take_snoc _ i 0 (by omega)
      refine Ev.step (fun k => rfl) ?_
      simp only [usherlaw6_broken.l1, wrapN i (by omega)]
      refine Ev.if_pos (by omega) (Ev.if_pos (by omega) (Ev.if_pos (by omega) (Ev.if_pos (by omega) ?_)))
      have hT := Token.ev (b.extract ((i : Int)).toNat (((i + 1 : Nat) : Int)).toNat) (by rw [ByteArray.size_extract]; omega)
      have he : bytesOf (b.extract ((i : Int)).toNat (((i + 1 : Nat) : Int)).toNat) = [bt b (i : Int)] := by
        rw [bytesOf_extract, Int.toNat_natCast, Int.toNat_natCast, htk, List.drop_append, List.drop_eq_nil_of_le (by rw [List.length_take]; omega), List.length_take, Nat.min_eq_left (by omega), Nat.sub_self]; rfl
      rw [he, show tokL [bt b (i : Int)] = isB 1 (bt b (i : Int)) by simp [tokL]] at hT
      refine hT.bind ?_
      rw [hd]
      by_cases ht : isB 1 (bt b (i : Int)) = true
      · refine Ev.if_pos ht ?_
        refine Ev.eq (ih (i + 1) (by omega) (by rw [htk, List.all_append, hall]; simp [ht])) ?_
        rw [List.dropWhile_cons, if_pos ht, List.takeWhile_cons, if_pos ht, List.length_cons]
        rw [show i + ((((bytesOf b).drop (i + 1)).takeWhile (isB 1)).length + 1) = i + 1 + (((bytesOf b).drop (i + 1)).takeWhile (isB 1)).length by omega]
      · refine Ev.if_neg ht ?_
        rw [List.dropWhile_cons, if_neg ht, List.takeWhile_cons, if_neg ht]
        dsimp only
        by_cases h0 : i = 0
        · refine Ev.eq (Ev.if_pos (by omega) (Ev.now _)) ?_
          subst h0; rfl
        · have e0 : decide (i + ([] : List Int).length = 0) = false := decide_eq_false (by simpa using h0)
          rw [e0, Bool.false_or]
          refine Ev.if_neg (by omega) ?_
          generalize bt b (i : Int) = c at *
          by_cases h59 : c = 59
          · exact Ev.eq (Ev.if_pos h59 (Ev.now _)) (by simp [h59])
          · refine Ev.if_neg h59 ?_
            by_cases h32 : c = 32
            · exact Ev.eq (Ev.if_pos h32 (Ev.now _)) (by simp [h32])
            · refine Ev.eq (Ev.if_neg h32 (Ev.now _)) ?_
              rw [decide_eq_true h59, decide_eq_true h32, Bool.true_and, Bool.true_and]
              rw [Bool.eq_iff_iff]; simp
  simp only [usherlaw6_broken.f]
  refine (Token.ev a (by omega)).bind ?_
  unfold brkL
  cases tokL (bytesOf a) with
  | true =>
    refine Ev.if_pos rfl (Ev.eq (H1 b.size 0 (by omega) (by simp)) ?_)
    rw [if_pos rfl, List.drop_zero]
    cases hdw : (bytesOf b).dropWhile (isB 1) with
    | nil => rfl
    | cons c r =>
      dsimp only
      congr 1
      rw [Bool.eq_iff_iff]; simp [List.length_eq_zero_iff]
  | false => exact Ev.if_neg (by simp) (Ev.eq (H0 a.size 0 (by omega)) (by rw [List.drop_zero]; rfl))
/-! ### types out of pieces -/
theorem while_app {p : Int → Bool} {T r : List Int} (hT : ∀ x ∈ T, p x = true) (hr : ∀ c m, r = c :: m → p c = false) : (T ++ r).takeWhile p = T ∧ (T ++ r).dropWhile p = r := by
  induction T with
  | nil =>
    cases r with
    | nil => exact ⟨rfl, rfl⟩
    | cons c m =>
      have := hr c m rfl
      simp [List.takeWhile_cons, List.dropWhile_cons, this]
  | cons x T ih =>
    have hx := hT x List.mem_cons_self
    have := ih (fun y hy => hT y (List.mem_cons_of_mem _ hy))
    rw [List.cons_append, List.takeWhile_cons, List.dropWhile_cons, if_pos hx, if_pos hx, this.1, this.2]
    exact ⟨rfl, rfl⟩
theorem tokL_all {l : List Int} (h : tokL l = true) : l ≠ [] ∧ ∀ x ∈ l, isB 1 x = true := by
  unfold tokL at h
  rw [Bool.and_eq_true] at h
  refine ⟨fun e => by rw [e] at h; exact absurd h.1 (by simp), List.all_eq_true.1 h.2⟩
theorem med_head {T S z : List Int} (hT : tokL T = true) (hS : tokL S = true) (hz : ∀ c m, z = c :: m → isB 1 c = false) : medR (T ++ 47 :: (S ++ z)) = if parsR ((T ++ 47 :: (S ++ z)).length + 1) z = true then some (T ++ 47 :: S) else none := by
  obtain ⟨t0, t1⟩ := tokL_all hT
  obtain ⟨s0, s1⟩ := tokL_all hS
  have w1 := while_app (p := isB 1) (T := T) (r := 47 :: (S ++ z)) t1 (fun c m h => by injection h with h _; rw [← h]; exact isB_facts.1)
  have w2 := while_app (p := isB 1) (T := S) (r := z) s1 hz
  unfold medR
  rw [w1.1, w1.2, if_neg t0]
  dsimp only
  rw [if_pos rfl, w2.1, w2.2, if_neg s0]
theorem quot_esc : ∀ (l r : List Int), (∀ c ∈ l, isB 4 c = true) → quotR (escS l ++ 34 :: r) = some r := by
  intro l
  induction l with
  | nil =>
    intro r _
    show quotR (34 :: r) = some r
    cases r with
    | nil => rfl
    | cons d r => rfl
  | cons c l ih =>
    intro r h
    have hr := ih r (fun x hx => h x (List.mem_cons_of_mem _ hx))
    have hc := h c List.mem_cons_self
    rw [escS_cons]
    obtain ⟨d, m, hm⟩ : ∃ d m, escS l ++ 34 :: r = d :: m := by
      cases e : escS l with
      | nil => exact ⟨34, r, rfl⟩
      | cons d m => exact ⟨d, _, rfl⟩
    unfold escI
    by_cases hq : c = 34 ∨ c = 92
    · rw [if_pos hq]
      show quotR (92 :: c :: (escS l ++ 34 :: r)) = some r
      unfold quotR
      rw [if_neg (by decide), if_pos rfl, if_pos hc]
      exact hr
    · rw [if_neg hq]
      show quotR (c :: (escS l ++ 34 :: r)) = some r
      rw [hm] at hr ⊢
      unfold quotR
      rw [if_neg (fun e => hq (Or.inl e)), if_neg (fun e => hq (Or.inr e)), if_pos hc]
      exact hr
theorem quot_open : ∀ l : List Int, (∀ c ∈ l, c ≠ 34 ∧ c ≠ 92) → quotR l = none := by
  intro l
  induction l with
  | nil => intro _; rfl
  | cons c l ih =>
    intro h
    have hc := h c List.mem_cons_self
    have hr := ih (fun x hx => h x (List.mem_cons_of_mem _ hx))
    cases l with
    | nil => unfold quotR; rw [if_neg hc.1]
    | cons d r =>
      unfold quotR
      rw [if_neg hc.1, if_neg hc.2, hr]
      split <;> rfl
theorem par_name {N r : List Int} (hN : tokL N = true) : parR (N ++ 61 :: 34 :: r) = quotR r := by
  obtain ⟨n0, n1⟩ := tokL_all hN
  have w1 := while_app (p := isB 1) (T := N) (r := 61 :: 34 :: r) n1 (fun c m h => by injection h with h _; rw [← h]; exact isB_facts.2.2.2.1)
  unfold parR
  rw [w1.1, w1.2, if_neg n0]
  dsimp only
  rw [if_pos rfl, if_pos rfl]
theorem parsR_succ (f : Nat) (l : List Int) : parsR (f + 1) l = if l = [] then true else match l.dropWhile (isB 8) with
    | [] => false
    | c :: r => if c = 59 then (match r.dropWhile (isB 8) with
      | [] => parsR f []
      | d :: r2 => if isB 1 d = true then (match parR (d :: r2) with
        | none => false
        | some r3 => parsR f r3) else parsR f (d :: r2)) else false := rfl
theorem pars_step {N r w1 w2 : List Int} (f : Nat) (hN : tokL N = true) (hNr : ∀ x ∈ N, 0 ≤ x ∧ x ≤ 255) (h1 : ∀ x ∈ w1, isB 8 x = true) (h2 : ∀ x ∈ w2, isB 8 x = true) : parsR (f + 1) (w1 ++ 59 :: (w2 ++ (N ++ 61 :: 34 :: r))) = match quotR r with | none => false | some r3 => parsR f r3 := by
  obtain ⟨n0, n1⟩ := tokL_all hN
  have a1 := while_app (p := isB 8) (T := w1) (r := 59 :: (w2 ++ (N ++ 61 :: 34 :: r))) h1 (fun c m h => by injection h with h _; rw [← h]; exact isB_facts.2.2.2.2.2.1)
  obtain ⟨d, m, hd⟩ : ∃ d m, N = d :: m := by
    cases N with
    | nil => exact absurd rfl n0
    | cons d m => exact ⟨d, m, rfl⟩
  have hdt : isB 1 d = true := n1 d (by rw [hd]; exact List.mem_cons_self)
  have hdr := hNr d (by rw [hd]; exact List.mem_cons_self)
  have a2 := while_app (p := isB 8) (T := w2) (r := N ++ 61 :: 34 :: r) h2 (fun c m' h => by
    rw [hd, List.cons_append] at h
    injection h with h _
    rw [← h]; exact (tok_of hdr hdt).1)
  show (if w1 ++ 59 :: (w2 ++ (N ++ 61 :: 34 :: r)) = [] then true else match (w1 ++ 59 :: (w2 ++ (N ++ 61 :: 34 :: r))).dropWhile (isB 8) with
    | [] => false
    | c :: r => if c = 59 then (match r.dropWhile (isB 8) with
      | [] => parsR f []
      | d :: r2 => if isB 1 d = true then (match parR (d :: r2) with
        | none => false
        | some r3 => parsR f r3) else parsR f (d :: r2)) else false) = _
  rw [if_neg (by simp), a1.2]
  dsimp only
  rw [if_pos rfl, a2.2]
  have hp := par_name (r := r) hN
  rw [hd, List.cons_append] at hp ⊢
  dsimp only
  rw [if_pos hdt, hp]
theorem pars_nil (f : Nat) : parsR (f + 1) [] = true := rfl
theorem pars_semi (f : Nat) : parsR (f + 2) [59] = true := by
  show (if ([59] : List Int) = [] then true else match ([59] : List Int).dropWhile (isB 8) with
    | [] => false
    | c :: r => if c = 59 then (match r.dropWhile (isB 8) with
      | [] => parsR (f + 1) []
      | d :: r2 => if isB 1 d = true then (match parR (d :: r2) with
        | none => false
        | some r3 => parsR (f + 1) r3) else parsR (f + 1) (d :: r2)) else false) = true
  have e : ([59] : List Int).dropWhile (isB 8) = [59] := by rw [List.dropWhile_cons, if_neg (by rw [isB_facts.2.2.2.2.2.1]; simp)]
  rw [if_neg (by simp), e]
  rfl
theorem pars_blank (f : Nat) : parsR (f + 1) [32] = false := by
  have e : ([32] : List Int).dropWhile (isB 8) = [] := by rw [List.dropWhile_cons, if_pos isB_facts.2.2.2.2.2.2.2.1]; rfl
  rw [parsR_succ, if_neg (by simp), e]
/-- No semicolon ahead of the slash behind a slash: no parameters. -/
theorem pars_slash (f : Nat) (l z : List Int) (h : ∀ c ∈ l, c ≠ 59) : parsR f (l ++ 47 :: z) = false := by
  cases f with
  | zero => rfl
  | succ f =>
    have hd : ∃ c r, (l ++ 47 :: z).dropWhile (isB 8) = c :: r ∧ c ≠ 59 := by
      induction l with
      | nil =>
        refine ⟨47, z, ?_, by decide⟩
        rw [List.nil_append, List.dropWhile_cons, if_neg (by rw [isB_facts.2.2.2.2.2.2.1]; simp)]
      | cons x l ih =>
        rw [List.cons_append, List.dropWhile_cons]
        by_cases hx : isB 8 x = true
        · rw [if_pos hx]; exact ih (fun c hc => h c (List.mem_cons_of_mem _ hc))
        · rw [if_neg hx]; exact ⟨x, _, rfl, h x List.mem_cons_self⟩
    obtain ⟨c, r, e, hc⟩ := hd
    rw [parsR_succ, if_neg (by simp), e]
    dsimp only
    rw [if_neg hc]
theorem med_broken {T S z : List Int} (hr : ∀ x ∈ S, 0 ≤ x ∧ x ≤ 255) (hn : ¬ (tokL T = true ∧ tokL S = true)) (hb : brkL T S = true) (hz : ∃ m, z = 32 :: m) : medR (T ++ 47 :: (S ++ z)) = none := by
  unfold brkL at hb
  by_cases hT : tokL T = true
  · rw [if_pos hT] at hb
    obtain ⟨t0, t1⟩ := tokL_all hT
    have w1 := while_app (p := isB 1) (T := T) (r := 47 :: (S ++ z)) t1 (fun c m h => by injection h with h _; rw [← h]; exact isB_facts.1)
    unfold medR
    rw [w1.1, w1.2, if_neg t0]
    dsimp only
    rw [if_pos rfl]
    have hsplit : S = S.takeWhile (isB 1) ++ S.dropWhile (isB 1) := List.takeWhile_append_dropWhile.symm
    cases hdw : S.dropWhile (isB 1) with
    | nil =>
      rw [hdw] at hb hsplit
      dsimp only at hb
      have hS : S = [] := List.isEmpty_iff.1 hb
      obtain ⟨m, rfl⟩ := hz
      have e : (S ++ 32 :: m).takeWhile (isB 1) = [] := by rw [hS, List.nil_append, List.takeWhile_cons, if_neg (by rw [isB_facts.2.1]; simp)]
      rw [if_pos e]
    | cons c r =>
      rw [hdw] at hb hsplit
      dsimp only at hb
      have hcn : isB 1 c = false := by
        have := List.head?_dropWhile_not (isB 1) S
        rw [hdw] at this
        simpa using this
      have w2 := while_app (p := isB 1) (T := S.takeWhile (isB 1)) (r := c :: (r ++ z)) (fun x hx => tw_mem hx) (fun c' m h => by injection h with h _; rw [← h]; exact hcn)
      have hsz : S ++ z = S.takeWhile (isB 1) ++ c :: (r ++ z) := by
        conv => lhs; rw [hsplit]
        rw [List.append_assoc]; rfl
      rw [hsz, w2.1, w2.2]
      by_cases he : S.takeWhile (isB 1) = []
      · rw [if_pos he]
      · rw [if_neg he]
        have hb2 : decide (c ≠ 59) = true ∧ decide (c ≠ 32) = true ∧ decide (c ≠ 9) = true := by
          have : (S.takeWhile (isB 1)).isEmpty = false := by simpa using he
          rw [this, Bool.false_or, Bool.and_eq_true, Bool.and_eq_true] at hb
          exact ⟨hb.1.1, hb.1.2, hb.2⟩
        have h59 : c ≠ 59 := of_decide_eq_true hb2.1
        have hcr : 0 ≤ c ∧ c ≤ 255 := hr c (by rw [hsplit]; simp)
        have hw : isB 8 c = false := by
          rw [white_of hcr, decide_eq_false (of_decide_eq_true hb2.2.1), decide_eq_false (of_decide_eq_true hb2.2.2)]; rfl
        have hp : ∀ f, parsR f (c :: (r ++ z)) = false := by
          intro f
          cases f with
          | zero => rfl
          | succ f =>
            have e : (c :: (r ++ z)).dropWhile (isB 8) = c :: (r ++ z) := by rw [List.dropWhile_cons, if_neg (by rw [hw]; simp)]
            rw [parsR_succ, if_neg (by simp), e]
            dsimp only
            rw [if_neg h59]
        rw [hp, if_neg (by simp)]
  · rw [if_neg hT] at hb
    have h59 : ∀ c ∈ T, c ≠ 59 := fun c hc => of_decide_eq_true (List.all_eq_true.1 hb c hc)
    have hsplit : T = T.takeWhile (isB 1) ++ T.dropWhile (isB 1) := List.takeWhile_append_dropWhile.symm
    cases hdw : T.dropWhile (isB 1) with
    | nil =>
      rw [hdw, List.append_nil] at hsplit
      have hall : ∀ x ∈ T, isB 1 x = true := fun x hx => by rw [hsplit] at hx; exact tw_mem hx
      have hT0 : T = [] := by
        cases T with
        | nil => rfl
        | cons x T =>
          refine absurd ?_ hT
          unfold tokL
          rw [Bool.and_eq_true]
          exact ⟨rfl, List.all_eq_true.2 hall⟩
      have e : (T ++ 47 :: (S ++ z)).takeWhile (isB 1) = [] := by rw [hT0, List.nil_append, List.takeWhile_cons, if_neg (by rw [isB_facts.1]; simp)]
      unfold medR
      rw [if_pos e]
    | cons c r =>
      rw [hdw] at hsplit
      have hcn : isB 1 c = false := by
        have := List.head?_dropWhile_not (isB 1) T
        rw [hdw] at this
        simpa using this
      have w2 := while_app (p := isB 1) (T := T.takeWhile (isB 1)) (r := c :: (r ++ 47 :: (S ++ z))) (fun x hx => tw_mem hx) (fun c' m h => by injection h with h _; rw [← h]; exact hcn)
      have hsz : T ++ 47 :: (S ++ z) = T.takeWhile (isB 1) ++ c :: (r ++ 47 :: (S ++ z)) := by
        conv => lhs; rw [hsplit]
        rw [List.append_assoc]; rfl
      unfold medR
      rw [hsz, w2.1, w2.2]
      by_cases he : T.takeWhile (isB 1) = []
      · rw [if_pos he]
      · rw [if_neg he]
        dsimp only
        by_cases h47 : c = 47
        · rw [if_pos h47]
          have hr59 : ∀ x ∈ r, x ≠ 59 := fun x hx => h59 x (by rw [hsplit]; simp [hx])
          have hd2 : ∃ l, (∀ x ∈ l, x ≠ 59) ∧ (r ++ 47 :: (S ++ z)).dropWhile (isB 1) = l ++ 47 :: (S ++ z) := by
            clear hsz w2 hsplit hdw he
            induction r with
            | nil =>
              refine ⟨[], by simp, ?_⟩
              rw [List.nil_append, List.dropWhile_cons, if_neg (by rw [isB_facts.1]; simp)]
            | cons x r ih =>
              by_cases hx : isB 1 x = true
              · obtain ⟨l, h1, h2⟩ := ih (fun y hy => hr59 y (List.mem_cons_of_mem _ hy))
                refine ⟨l, h1, ?_⟩
                rw [List.cons_append, List.dropWhile_cons, if_pos hx, h2]
              · refine ⟨x :: r, hr59, ?_⟩
                rw [List.cons_append, List.dropWhile_cons, if_neg hx]
          obtain ⟨l, h1, h2⟩ := hd2
          rw [h2, pars_slash _ l _ h1]
          split <;> simp
        · rw [if_neg h47]
set_option maxHeartbeats 4000000 in
theorem FieldMediaQuoted_pure (a b n x : ByteArray) (_ : a.size ≤ 140737488351232) (_ : b.size ≤ 140737488351232) (_ : n.size ≤ 140737488351232) (_ : x.size ≤ 140737488351232)
    (hbk : a.size + (b.size + (n.size + x.size)) ≤ 1048576) : ∃ k, usherlaw6_FieldMediaQuoted.f k a b n x = some true := by
  refine Ev.rounds (g := fun k => usherlaw6_FieldMediaQuoted.f k a b n x) ?_
  have hla := bytesOf_length a
  have hlb := bytesOf_length b
  have hln := bytesOf_length n
  have hlx := bytesOf_length x
  have hra := fun c (h : c ∈ bytesOf a) => bytesOf_range h
  have hrb := fun c (h : c ∈ bytesOf b) => bytesOf_range h
  -- the quoted text
  obtain ⟨E, hE1, hE2, hE3⟩ : ∃ E : List Int, (∀ r, quotR (E ++ 34 :: r) = some r) ∧ E.length ≤ 2097152 ∧ ∃ q : ByteArray, bytesOf q = 34 :: (E ++ [34]) ∧ ∀ (F : Nat → ByteArray → Option Bool), (∀ p : ByteArray, bytesOf p = 34 :: (E ++ [34]) → Ev (fun k => F k p) true) → Ev (fun k => (usherlaw6_quoted.f k x).bind fun bt137 => (if bt137.2 = true then F k bt137.1 else F k (⟨#[34, 34]⟩ : ByteArray))) true := by
    have hq := quoted.ev x (by omega)
    cases hv : (bytesOf x).all (isB 4) with
    | true =>
      rw [hv, if_pos rfl] at hq
      have hall := List.all_eq_true.1 hv
      have hl2 := escS_len (bytesOf x)
      have hb : bytesOf (strOfNums (34 :: (escS (bytesOf x) ++ [34]))) = 34 :: (escS (bytesOf x) ++ [34]) := by
        refine bytesOf_strOfNums ?_
        intro y hy
        rcases List.mem_cons.1 hy with rfl | hy
        · omega
        · rcases List.mem_append.1 hy with hy | hy
          · obtain ⟨c, hc, hy⟩ := List.mem_flatMap.1 hy
            have hcr := bytesOf_range hc
            unfold escI at hy
            split at hy
            · simp only [List.mem_cons, List.not_mem_nil, or_false] at hy
              rcases hy with rfl | rfl <;> omega
            · rw [List.mem_singleton] at hy; subst hy; exact hcr
          · rw [List.mem_singleton] at hy; subst hy; omega
      exact ⟨escS (bytesOf x), fun r => quot_esc _ r hall, by omega, _, hb, fun F hF => hq.bind (Ev.if_pos rfl (hF _ hb))⟩
    | false =>
      rw [hv, if_neg (by simp)] at hq
      exact ⟨[], fun r => quot_esc [] r (by simp), by simp, ⟨#[34, 34]⟩, rfl, fun F hF => hq.bind (Ev.if_neg (by simp) (hF _ rfl))⟩
  obtain ⟨_, _, hE3⟩ := hE3
  -- the name
  have main : ∀ N : ByteArray, tokL (bytesOf N) = true → N.size ≤ 1048576 → Ev (fun k => usherlaw6_FieldMediaQuoted.j0 k N a b n x) true := by
    intro N hN hNs
    have hlN := bytesOf_length N
    have hrN := fun c (h : c ∈ bytesOf N) => bytesOf_range h
    obtain ⟨N0, N1⟩ := tokL_all hN
    have z1 : (a ++ (⟨#[47]⟩ : ByteArray)).size = a.size + 1 := by rw [ByteArray.size_append]; rfl
    have z2 : ((a ++ (⟨#[47]⟩ : ByteArray)) ++ b).size = a.size + 1 + b.size := by rw [ByteArray.size_append, z1]
    refine Ev.step (fun k => rfl) ?_
    simp only [usherlaw6_FieldMediaQuoted.j0]
    refine Ev.if_pos (by omega) (Ev.if_pos (by omega) ?_)
    refine hE3 (fun k q => usherlaw6_FieldMediaQuoted.j1 k N ((a ++ (⟨#[47]⟩ : ByteArray)) ++ b) q a b n x) ?_
    intro q hq
    have hlq := bytesOf_length q
    have hql : q.size = E.length + 2 := by rw [← hlq, hq]; simp
    have hH : bytesOf ((a ++ (⟨#[47]⟩ : ByteArray)) ++ b) = bytesOf a ++ 47 :: bytesOf b := by
      rw [bytesOf_append, bytesOf_append, List.append_assoc]; rfl
    have hrH : ∀ c ∈ bytesOf ((a ++ (⟨#[47]⟩ : ByteArray)) ++ b), 0 ≤ c ∧ c ≤ 255 := fun c h => bytesOf_range h
    generalize (a ++ (⟨#[47]⟩ : ByteArray)) ++ b = H at *
    clear z1
    have y1 : (H ++ (⟨#[32, 9, 59, 9, 32]⟩ : ByteArray)).size = H.size + 5 := by rw [ByteArray.size_append]; rfl
    have y2 : ((H ++ (⟨#[32, 9, 59, 9, 32]⟩ : ByteArray)) ++ N).size = H.size + 5 + N.size := by rw [ByteArray.size_append, y1]
    have y3 : (((H ++ (⟨#[32, 9, 59, 9, 32]⟩ : ByteArray)) ++ N) ++ (⟨#[61]⟩ : ByteArray)).size = H.size + 5 + N.size + 1 := by rw [ByteArray.size_append, y2]; rfl
    have y4 : ((((H ++ (⟨#[32, 9, 59, 9, 32]⟩ : ByteArray)) ++ N) ++ (⟨#[61]⟩ : ByteArray)) ++ q).size = H.size + 5 + N.size + 1 + q.size := by rw [ByteArray.size_append, y3]
    have y5 : (((((H ++ (⟨#[32, 9, 59, 9, 32]⟩ : ByteArray)) ++ N) ++ (⟨#[61]⟩ : ByteArray)) ++ q) ++ (⟨#[59]⟩ : ByteArray)).size = H.size + 5 + N.size + 1 + q.size + 1 := by rw [ByteArray.size_append, y4]; rfl
    have hM1 := Media_lists (((((H ++ (⟨#[32, 9, 59, 9, 32]⟩ : ByteArray)) ++ N) ++ (⟨#[61]⟩ : ByteArray)) ++ q) ++ (⟨#[59]⟩ : ByteArray)) (by omega)
    have e1 : bytesOf (((((H ++ (⟨#[32, 9, 59, 9, 32]⟩ : ByteArray)) ++ N) ++ (⟨#[61]⟩ : ByteArray)) ++ q) ++ (⟨#[59]⟩ : ByteArray)) = bytesOf a ++ 47 :: (bytesOf b ++ ([32, 9] ++ 59 :: ([9, 32] ++ (bytesOf N ++ 61 :: 34 :: (E ++ 34 :: [59]))))) := by
      simp only [bytesOf_append, hH, hq, List.append_assoc, List.cons_append]
      rfl
    rw [e1] at hM1
    obtain ⟨md, hmd⟩ : ∃ md, md = medR (bytesOf a ++ 47 :: (bytesOf b ++ ([32, 9] ++ 59 :: ([9, 32] ++ (bytesOf N ++ 61 :: 34 :: (E ++ 34 :: [59])))))) := ⟨_, rfl⟩
    rw [← hmd] at hM1
    refine Ev.step (fun k => rfl) ?_
    simp only [usherlaw6_FieldMediaQuoted.j1, hM1, Option.bind_some]
    refine Ev.if_pos (by omega) (Ev.if_pos (by omega) (Ev.if_pos (by omega) (Ev.if_pos (by omega) (Ev.if_pos (by omega) ?_))))
    refine (Token.ev a (by omega)).bind ?_
    have hz32 : ∀ (c : Int) (m : List Int), ([32, 9] ++ 59 :: ([9, 32] ++ (bytesOf N ++ 61 :: 34 :: (E ++ 34 :: [59])))) = c :: m → isB 1 c = false := fun c m h => by injection h with h _; rw [← h]; exact isB_facts.2.1
    -- not both tokens
    have hno : ¬ (tokL (bytesOf a) = true ∧ tokL (bytesOf b) = true) → ∀ md : Option (List Int), md = medR (bytesOf a ++ 47 :: (bytesOf b ++ ([32, 9] ++ 59 :: ([9, 32] ++ (bytesOf N ++ 61 :: 34 :: (E ++ 34 :: [59])))))) →
        Ev (fun k => usherlaw6_FieldMediaQuoted.j2 k N H q (medV md).1 (medV md).2 true a b n x) true := by
      intro hnt md hmd
      refine Ev.step (fun k => rfl) ?_
      simp only [usherlaw6_FieldMediaQuoted.j2]
      refine Ev.if_pos (by simp) ((broken.ev a b (by omega) (by omega)).bind ?_)
      cases hbr : brkL (bytesOf a) (bytesOf b) with
      | false => exact Ev.if_neg (by simp) (Ev.now _)
      | true =>
        have := med_broken (z := [32, 9] ++ 59 :: ([9, 32] ++ (bytesOf N ++ 61 :: 34 :: (E ++ 34 :: [59])))) hrb hnt hbr ⟨_, rfl⟩
        rw [this] at hmd
        subst hmd
        refine Ev.if_pos rfl (Ev.if_neg (by simp [medV]) (Ev.if_pos rfl ?_))
        exact Ev.eq (Ev.now _) (by rw [beq_iff_eq]; exact toList_nil.2 rfl)
    cases hTa : tokL (bytesOf a) with
    | false =>
      refine Ev.if_neg (by simp) ?_
      exact hno (by rw [hTa]; simp) _ hmd
    | true =>
      refine Ev.if_pos rfl ((Token.ev b (by omega)).bind ?_)
      cases hTb : tokL (bytesOf b) with
      | false => exact hno (by rw [hTb]; simp) _ hmd
      | true =>
        have hfu : ∀ (l : List Int) (m : Nat), m ≤ l.length → ∃ f, l.length + 1 = f + (m + 1) := fun l m h => ⟨l.length - m, by omega⟩
        have hW : ∀ y ∈ ([32, 9] : List Int), isB 8 y = true := by
          intro y hy
          simp only [List.mem_cons, List.not_mem_nil, or_false] at hy
          rcases hy with rfl | rfl
          · exact isB_facts.2.2.2.2.2.2.2.1
          · exact isB_facts.2.2.2.2.2.2.2.2.1
        have hW2 : ∀ y ∈ ([9, 32] : List Int), isB 8 y = true := by
          intro y hy
          simp only [List.mem_cons, List.not_mem_nil, or_false] at hy
          rcases hy with rfl | rfl
          · exact isB_facts.2.2.2.2.2.2.2.2.1
          · exact isB_facts.2.2.2.2.2.2.2.1
        have hm1 := med_head hTa hTb hz32
        obtain ⟨f, hf⟩ := hfu (bytesOf a ++ 47 :: (bytesOf b ++ ([32, 9] ++ 59 :: ([9, 32] ++ (bytesOf N ++ 61 :: 34 :: (E ++ 34 :: [59])))))) 2 (by simp only [List.length_append, List.length_cons]; omega)
        have hp1 : parsR ((bytesOf a ++ 47 :: (bytesOf b ++ ([32, 9] ++ 59 :: ([9, 32] ++ (bytesOf N ++ 61 :: 34 :: (E ++ 34 :: [59])))))).length + 1) ([32, 9] ++ 59 :: ([9, 32] ++ (bytesOf N ++ 61 :: 34 :: (E ++ 34 :: [59])))) = true := by
          rw [hf, pars_step (f + 2) hN hrN hW hW2, hE1]
          exact pars_semi f
        rw [if_pos hp1] at hm1
        rw [hm1] at hmd
        subst hmd
        simp only [medV]
        refine Ev.step (fun k => rfl) ?_
        simp only [usherlaw6_FieldMediaQuoted.j2]
        refine Ev.if_neg (by simp) (Ev.if_pos rfl ((lower6.ev H (by omega)).bind ?_))
        rw [hH] at hrH ⊢
        have hne : ((strOfNums ((bytesOf a ++ 47 :: bytesOf b).map lowI)).toList != (strOfNums ((bytesOf a ++ 47 :: bytesOf b).map lowI)).toList) = false := by simp
        rw [hne]
        -- the second half
        have hLH : bytesOf (strOfNums ((bytesOf a ++ 47 :: bytesOf b).map lowI)) = (bytesOf a).map lowI ++ 47 :: ((bytesOf b).map lowI ++ []) := by
          rw [bytes_low _ hrH, List.map_append, List.map_cons, List.append_nil]; rfl
        have htl : ∀ l : List Int, (∀ c ∈ l, 0 ≤ c ∧ c ≤ 255) → tokL l = true → tokL (l.map lowI) = true := by
          intro l hr h
          obtain ⟨h0, h1⟩ := tokL_all h
          unfold tokL
          rw [Bool.and_eq_true]
          refine ⟨by cases l with
            | nil => exact absurd rfl h0
            | cons _ _ => rfl, List.all_eq_true.2 fun y hy => ?_⟩
          obtain ⟨c, hc, rfl⟩ := List.mem_map.1 hy
          exact (tok_of (hr c hc) (h1 c hc)).2.2.2.2.2
        have hs1 : (strOfNums ((bytesOf a ++ 47 :: bytesOf b).map lowI)).size ≤ 140737488351232 := by
          rw [size_eq, hLH]; simp only [List.length_append, List.length_map, List.length_cons, List.length_nil]; omega
        have hM2 := Media_lists _ hs1
        have hm2 := med_head (z := []) (htl _ hra hTa) (htl _ hrb hTb) (fun c m h => by cases h)
        rw [if_pos (pars_nil _)] at hm2
        rw [hLH, hm2] at hM2
        have hback : strOfNums (((bytesOf a).map lowI ++ 47 :: (bytesOf b).map lowI).map lowI) = strOfNums ((bytesOf a ++ 47 :: bytesOf b).map lowI) := by
          congr 1
          rw [List.map_append, List.map_cons, List.map_append, List.map_cons, List.map_map, List.map_map]
          congr 1
          · exact List.map_congr_left fun c hc => low_low (hra c hc)
          · congr 1
            exact List.map_congr_left fun c hc => low_low (hrb c hc)
        simp only [medV] at hM2
        rw [hback] at hM2
        -- the open quote
        have x1 : (H ++ (⟨#[59]⟩ : ByteArray)).size = H.size + 1 := by rw [ByteArray.size_append]; rfl
        have x2 : ((H ++ (⟨#[59]⟩ : ByteArray)) ++ N).size = H.size + 1 + N.size := by rw [ByteArray.size_append, x1]
        have x3 : (((H ++ (⟨#[59]⟩ : ByteArray)) ++ N) ++ (⟨#[61, 34]⟩ : ByteArray)).size = H.size + 1 + N.size + 2 := by rw [ByteArray.size_append, x2]; rfl
        have x4 : (((H ++ (⟨#[59]⟩ : ByteArray)) ++ N) ++ (⟨#[61]⟩ : ByteArray)).size = H.size + 1 + N.size + 1 := by rw [ByteArray.size_append, x2]; rfl
        have x5 : ((((H ++ (⟨#[59]⟩ : ByteArray)) ++ N) ++ (⟨#[61]⟩ : ByteArray)) ++ q).size = H.size + 1 + N.size + 1 + q.size := by rw [ByteArray.size_append, x4]
        have hNl : bytesOf (strOfNums ((bytesOf N).map lowI)) = (bytesOf N).map lowI := bytes_low _ hrN
        have x6 : (strOfNums ((bytesOf N).map lowI)).size = N.size := by rw [size_eq, hNl, List.length_map, hlN]
        have x7 : ((((H ++ (⟨#[59]⟩ : ByteArray)) ++ N) ++ (⟨#[61, 34]⟩ : ByteArray)) ++ strOfNums ((bytesOf N).map lowI)).size = H.size + 1 + N.size + 2 + N.size := by rw [ByteArray.size_append, x3, x6]
        have x8 : (((((H ++ (⟨#[59]⟩ : ByteArray)) ++ N) ++ (⟨#[61]⟩ : ByteArray)) ++ q) ++ (⟨#[32]⟩ : ByteArray)).size = H.size + 1 + N.size + 1 + q.size + 1 := by rw [ByteArray.size_append, x5]; rfl
        have hM3 := Media_lists ((((H ++ (⟨#[59]⟩ : ByteArray)) ++ N) ++ (⟨#[61, 34]⟩ : ByteArray)) ++ strOfNums ((bytesOf N).map lowI)) (by omega)
        have e3 : bytesOf ((((H ++ (⟨#[59]⟩ : ByteArray)) ++ N) ++ (⟨#[61, 34]⟩ : ByteArray)) ++ strOfNums ((bytesOf N).map lowI)) = bytesOf a ++ 47 :: (bytesOf b ++ ([] ++ 59 :: ([] ++ (bytesOf N ++ 61 :: 34 :: (bytesOf N).map lowI)))) := by
          simp only [bytesOf_append, hH, hNl, List.append_assoc, List.cons_append]
          rfl
        rw [e3] at hM3
        have hz59 : ∀ (r : List Int) (c : Int) (m : List Int), ([] ++ 59 :: ([] ++ (bytesOf N ++ r)) : List Int) = c :: m → isB 1 c = false := fun r c m h => by injection h with h _; rw [← h]; exact isB_facts.2.2.1
        have hm3 := med_head hTa hTb (hz59 (61 :: 34 :: (bytesOf N).map lowI))
        obtain ⟨f3, hf3⟩ := hfu (bytesOf a ++ 47 :: (bytesOf b ++ ([] ++ 59 :: ([] ++ (bytesOf N ++ 61 :: 34 :: (bytesOf N).map lowI))))) 1 (by simp only [List.length_append, List.length_cons]; omega)
        have hopen : quotR ((bytesOf N).map lowI) = none := quot_open _ (fun y hy => by
          obtain ⟨c, hc, rfl⟩ := List.mem_map.1 hy
          have h1 := (tok_of (hrN c hc) (N1 c hc)).2.2.2.2.2
          have h2 := tok_of (lowI_range (hrN c hc)) h1
          exact ⟨h2.2.1, h2.2.2.1⟩)
        have hp3 : parsR ((bytesOf a ++ 47 :: (bytesOf b ++ ([] ++ 59 :: ([] ++ (bytesOf N ++ 61 :: 34 :: (bytesOf N).map lowI))))).length + 1) ([] ++ 59 :: ([] ++ (bytesOf N ++ 61 :: 34 :: (bytesOf N).map lowI))) = false := by
          rw [hf3, pars_step (f3 + 1) hN hrN (by simp) (by simp), hopen]
        rw [if_neg (by rw [hp3]; simp)] at hm3
        rw [hm3] at hM3
        -- the blank behind
        have hM4 := Media_lists (((((H ++ (⟨#[59]⟩ : ByteArray)) ++ N) ++ (⟨#[61]⟩ : ByteArray)) ++ q) ++ (⟨#[32]⟩ : ByteArray)) (by omega)
        have e4 : bytesOf (((((H ++ (⟨#[59]⟩ : ByteArray)) ++ N) ++ (⟨#[61]⟩ : ByteArray)) ++ q) ++ (⟨#[32]⟩ : ByteArray)) = bytesOf a ++ 47 :: (bytesOf b ++ ([] ++ 59 :: ([] ++ (bytesOf N ++ 61 :: 34 :: (E ++ 34 :: [32]))))) := by
          simp only [bytesOf_append, hH, hq, List.append_assoc, List.cons_append]
          rfl
        rw [e4] at hM4
        have hm4 := med_head hTa hTb (hz59 (61 :: 34 :: (E ++ 34 :: [32])))
        obtain ⟨f4, hf4⟩ := hfu (bytesOf a ++ 47 :: (bytesOf b ++ ([] ++ 59 :: ([] ++ (bytesOf N ++ 61 :: 34 :: (E ++ 34 :: [32])))))) 2 (by simp only [List.length_append, List.length_cons]; omega)
        have hp4 : parsR ((bytesOf a ++ 47 :: (bytesOf b ++ ([] ++ 59 :: ([] ++ (bytesOf N ++ 61 :: 34 :: (E ++ 34 :: [32])))))).length + 1) ([] ++ 59 :: ([] ++ (bytesOf N ++ 61 :: 34 :: (E ++ 34 :: [32])))) = false := by
          rw [hf4, pars_step (f4 + 2) hN hrN (by simp) (by simp), hE1]
          exact pars_blank _
        rw [if_neg (by rw [hp4]; simp)] at hm4
        rw [hm4] at hM4
        simp only [medV] at hM3 hM4
        refine Ev.step (fun k => rfl) ?_
        simp only [usherlaw6_FieldMediaQuoted.j3, hM2, Option.bind_some]
        refine Ev.if_neg (by simp) (Ev.if_pos (by omega) (Ev.if_pos (by omega) (Ev.if_pos (by omega) ?_)))
        refine (lower6.ev N (by omega)).bind (Ev.if_pos (by omega) ?_)
        simp only [hM3, hM4, Option.bind_some]
        refine Ev.if_pos (by omega) (Ev.if_pos (by omega) (Ev.if_pos (by omega) ?_))
        exact Ev.if_pos (by simp) (Ev.if_pos (by simp) (Ev.if_neg (by simp) (Ev.if_pos (by simp) (Ev.if_neg (by simp) (Ev.if_pos (by simp) (Ev.now _))))))
  simp only [usherlaw6_FieldMediaQuoted.f]
  refine (Token.ev n (by omega)).bind ?_
  cases hTn : tokL (bytesOf n) with
  | true => exact Ev.if_pos rfl (main n hTn (by omega))
  | false => exact Ev.if_neg (by simp) (main (⟨#[97]⟩ : ByteArray) (by decide +kernel) (by decide))
end Go.Proofs.YtbkhgmmlacdhoaaDoor.Q
