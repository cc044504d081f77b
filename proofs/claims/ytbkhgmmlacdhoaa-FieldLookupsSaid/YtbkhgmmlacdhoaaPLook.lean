/- What field.Lookup and the document's own answer, as plain functions of the list; FieldLookups and FieldCaseBlind answer true. Conditions: a list has at most 4398046510976 members, a text at most 140737488351232 bytes. -/
import Derived.Test.YtbkhgmmlacdhoaaQ4
import Derived.Test.YtbkhgmmlacdhoaaQ5
import Derived.Test.YtbkhgmmlacdhoaaPPairs
set_option linter.unusedVariables false
set_option linter.unusedSimpArgs false
namespace Go.Proofs.Ytbkhgmmlacdhoaa.Q
open Go.RowKit Go.Proofs.YtbkhgmmlacdhoaaW.PrintWords Go.Proofs.YtbkhgmmlacdhoaaW.PrintLast Go.Proofs.YtbkhgmmlacdhoaaW.PrintMore

def lowS (s : ByteArray) : ByteArray := strOfNums ((bytesOf s).map lowI)
theorem low_some (s : ByteArray) (hs : s.size ≤ 140737488351232) : field_low.f s = some (lowS s) := by unfold field_low.f lowS; rw [if_pos hs]
theorem small_at : ∀ c : Fin 256, usherref6_small.f (c.val : Int) = some (lowI (c.val : Int)) := by decide +kernel
theorem small_some (s : ByteArray) (i : Int) : usherref6_small.f (bt s i) = some (lowI (bt s i)) := by
  have hb := bt_range s i
  have := small_at ⟨(bt s i).toNat, by omega⟩
  simpa only [Int.toNat_of_nonneg hb.1] using this
theorem Lower.ev (s : ByteArray) (hs : s.size ≤ 140737488351232) : Ev (fun k => usherref6_Lower.f k s) (lowS s) := by
  have hl := bytesOf_length s
  have H := Ev.loop (F := fun k (i : Nat) => usherref6_Lower.l0 k s (((bytesOf s).take i).map lowI) (i : Int)) (r := fun _ => lowS s) (fun i => i ≤ s.size) (fun i => s.size - i) (by
    intro i hi ih
    by_cases h : i < s.size
    · simp only [usherref6_Lower.l0]
      refine Ev.if_pos (by omega) (Ev.if_pos (by omega) ?_)
      simp only [small_some, Option.bind_some]
      refine Ev.if_pos (by simp; omega) ?_
      rw [wrap64_of (by omega), bt_nat]
      have hn : (i : Int) + 1 = ((i + 1 : Nat) : Int) := by omega
      have hm : ((bytesOf s).take i).map lowI ++ [lowI ((bytesOf s).getD i 0)] = ((bytesOf s).take (i + 1)).map lowI := by
        rw [take_snoc (bytesOf s) i 0 (by omega), List.map_append]; rfl
      rw [hn, hm]
      exact ih (i + 1) (by omega) (by omega)
    · simp only [usherref6_Lower.l0]
      refine Ev.if_neg (by omega) ?_
      rw [List.take_of_length_le (by omega)]
      exact Ev.now _) 0 (by omega)
  simpa [usherref6_Lower.f] using H
/-- One field more. -/
def hit (key : ByteArray) (a : ByteArray × Int) (p : S34) : ByteArray × Int := if lowS p.f0 = key then (if a.2 = 0 then (p.f1, a.2 + 1) else (a.1, a.2 + 1)) else a
def lookS (l : List S34) (key : ByteArray) : ByteArray × Int := l.foldl (hit key) (⟨#[]⟩, 0)
def PairsOk (l : List S34) : Prop := l.length * 32 ≤ 140737488351232 ∧ ∀ x ∈ l, x.f0.size ≤ 140737488351232 ∧ x.f1.size ≤ 140737488351232
theorem getD_mem {α : Type} {l : List α} {i : Nat} {z : α} (h : i < l.length) : l.getD i z ∈ l := by
  rw [List.getD_eq_getElem?_getD, List.getElem?_eq_getElem h]; exact List.getElem_mem h
theorem Lookup.ev (l : List S34) (s : ByteArray) (hl : l.length ≤ 4398046511000) (hx : ∀ x ∈ l, x.f0.size ≤ 140737488351232) (hs : s.size ≤ 140737488351232) : Ev (fun k => field_Lookup.f k l s) (lookS l (lowS s)) := by
  simp only [field_Lookup.f, low_some s hs, Option.bind_some]
  have H := Ev.loop (F := fun k (x : ByteArray × Nat × Nat) => field_Lookup.l0 k (lowS s) x.1 (x.2.1 : Int) l (l.length : Int) (x.2.2 : Int)) (r := fun x => (l.drop x.2.2).foldl (hit (lowS s)) (x.1, (x.2.1 : Int))) (fun x => x.2.1 ≤ x.2.2 ∧ x.2.2 ≤ l.length) (fun x => l.length - x.2.2) (by
    rintro ⟨v, n, i⟩ ⟨hn, hi⟩ ih
    dsimp only at *
    by_cases h : i < l.length
    · simp only [field_Lookup.l0]
      refine Ev.if_pos (by omega) (Ev.if_pos (by omega) (Ev.if_pos (by omega) ?_))
      rw [rdP_nat, drop_cons l i z34 h]
      have hm := hx _ (getD_mem (z := z34) h)
      generalize l.getD i z34 = x at *
      simp only [low_some _ hm, Option.bind_some, toList_eq_iff, List.foldl_cons]
      have h1 : (i : Int) + 1 = ((i + 1 : Nat) : Int) := by omega
      have h2 : (n : Int) + 1 = ((n + 1 : Nat) : Int) := by omega
      rw [wrap64_of (x := (i : Int) + 1) (by omega), wrap64_of (x := (n : Int) + 1) (by omega)]
      by_cases hk : lowS x.f0 = lowS s
      · refine Ev.if_pos hk ?_
        by_cases h0 : (n : Int) = 0
        · refine Ev.if_pos h0 ?_
          have := ih (x.f1, n + 1, i + 1) ⟨by dsimp only; omega, by dsimp only; omega⟩ (by dsimp only; omega)
          simpa [hit, hk, h0] using this
        · refine Ev.if_neg h0 ?_
          have := ih (v, n + 1, i + 1) ⟨by dsimp only; omega, by dsimp only; omega⟩ (by dsimp only; omega)
          have h0' : ¬ n = 0 := by omega
          simpa [hit, hk, h0, h0'] using this
      · refine Ev.if_neg hk ?_
        have := ih (v, n, i + 1) ⟨by dsimp only; omega, by dsimp only; omega⟩ (by dsimp only; omega)
        simpa [hit, hk] using this
    · simp only [field_Lookup.l0]
      refine Ev.if_neg (by omega) ?_
      rw [List.drop_eq_nil_of_le (by omega)]
      exact Ev.now _) (⟨#[]⟩, 0, 0) ⟨by dsimp only; omega, by dsimp only; omega⟩
  simpa [lookS] using H
theorem LookupR.ev (l : List S34) (s : ByteArray) (hl : l.length ≤ 4398046511000) (hx : ∀ x ∈ l, x.f0.size ≤ 140737488351232) (hs : s.size ≤ 140737488351232) : Ev (fun k => usherref6_Lookup.f k l s) (lookS l (lowS s)) := by
  simp only [usherref6_Lookup.f]
  refine (Lower.ev s hs).bind ?_
  have H := Ev.loop (F := fun k (x : ByteArray × Nat × Nat) => usherref6_Lookup.l0 k l (lowS s) x.1 (x.2.1 : Int) (x.2.2 : Int)) (r := fun x => (l.drop x.2.2).foldl (hit (lowS s)) (x.1, (x.2.1 : Int))) (fun x => x.2.1 ≤ x.2.2 ∧ x.2.2 ≤ l.length) (fun x => l.length - x.2.2) (by
    rintro ⟨v, n, i⟩ ⟨hn, hi⟩ ih
    dsimp only at *
    by_cases h : i < l.length
    · simp only [usherref6_Lookup.l0]
      refine Ev.if_pos (by omega) (Ev.if_pos (by omega) ?_)
      rw [rdP_nat, drop_cons l i z34 h]
      have hm := hx _ (getD_mem (z := z34) h)
      generalize l.getD i z34 = x at *
      refine (Lower.ev _ hm).bind ?_
      simp only [toList_eq_iff, List.foldl_cons]
      have h1 : (i : Int) + 1 = ((i + 1 : Nat) : Int) := by omega
      have h2 : (n : Int) + 1 = ((n + 1 : Nat) : Int) := by omega
      rw [wrap64_of (x := (i : Int) + 1) (by omega), wrap64_of (x := (n : Int) + 1) (by omega)]
      by_cases hk : lowS x.f0 = lowS s
      · refine Ev.if_pos hk ?_
        by_cases h0 : (n : Int) = 0
        · refine Ev.if_pos h0 ?_
          have := ih (x.f1, n + 1, i + 1) ⟨by dsimp only; omega, by dsimp only; omega⟩ (by dsimp only; omega)
          simpa [hit, hk, h0] using this
        · refine Ev.if_neg h0 ?_
          have := ih (v, n + 1, i + 1) ⟨by dsimp only; omega, by dsimp only; omega⟩ (by dsimp only; omega)
          have h0' : ¬ n = 0 := by omega
          simpa [hit, hk, h0, h0'] using this
      · refine Ev.if_neg hk ?_
        have := ih (v, n, i + 1) ⟨by dsimp only; omega, by dsimp only; omega⟩ (by dsimp only; omega)
        simpa [hit, hk] using this
    · simp only [usherref6_Lookup.l0]
      refine Ev.if_neg (by omega) ?_
      rw [List.drop_eq_nil_of_le (by omega)]
      exact Ev.now _) (⟨#[]⟩, 0, 0) ⟨by dsimp only; omega, by dsimp only; omega⟩
  simpa [lookS] using H
theorem turnS_ok {l : List S34} (h : PairsOk l) : ∀ x ∈ turnS l, x.f0.size ≤ 140737488351232 := by
  intro x hx
  obtain ⟨y, hy, rfl⟩ := List.mem_map.1 hx
  exact (h.2 y hy).2
theorem FieldLookups_pure (l : List S34) (s : ByteArray) (hl : PairsOk l) (hs : s.size ≤ 140737488351232) : ∃ k, usherlaw6_FieldLookups.f k l s = some true := by
  refine Ev.rounds (g := fun k => usherlaw6_FieldLookups.f k l s) ?_
  have hx : ∀ x ∈ l, x.f0.size ≤ 140737488351232 := fun x h => (hl.2 x h).1
  have hln : l.length ≤ 4398046510976 := by have := hl.1; omega
  have htk : (l ++ [behS, behS]).take ((l.length : Int)).toNat = l := by simp
  simp only [usherlaw6_FieldLookups.f]
  refine (spare.ev l hln).bind ?_
  refine Ev.if_pos (by omega) (Ev.if_pos (by simp; omega) ?_)
  rw [htk]
  refine (Lookup.ev l s (by omega) hx hs).bind ((copied.ev l hln).bind ((LookupR.ev l s (by omega) hx hs).bind ?_))
  refine Ev.if_pos rfl (Ev.if_pos rfl ?_)
  refine (kept.ev l hln).bind ?_
  refine Ev.step (f := fun k => usherlaw6_FieldLookups.j0 (k + 1) (l ++ [behS, behS]) (!true) l s) (fun _ => rfl) ?_
  simp only [usherlaw6_FieldLookups.j0]
  refine Ev.if_neg (by simp) (Ev.if_pos (by omega) (Ev.if_pos (by simp; omega) ?_))
  rw [htk]
  have htl : (turnS l).length ≤ 4398046511000 := by simp [turnS]; omega
  refine (turn.ev l hln).bind ((Lookup.ev _ s htl (turnS_ok hl) hs).bind ((copied.ev l hln).bind ((turn.ev l hln).bind ((LookupR.ev _ s htl (turnS_ok hl) hs).bind ?_))))
  refine Ev.if_pos rfl ?_
  rw [beq_self_eq_true]
  exact Ev.now _

/-! ### cases -/
theorem flipI_range (mask : Int) (i : Nat) {c : Int} (h0 : 0 ≤ c) (h1 : c ≤ 255) : 0 ≤ flipI mask i c ∧ flipI mask i c ≤ 255 := by
  unfold flipI
  split
  · split
    · omega
    · split <;> omega
  · omega
theorem lowI_flip (mask : Int) (i : Nat) (c : Int) : lowI (flipI mask i c) = lowI c := by
  unfold flipI lowI
  repeat' split
  all_goals omega
def flipS (mask : Int) (s : ByteArray) : ByteArray := strOfNums (flipTo mask s s.size)
theorem flip_some (mask : Int) (s : ByteArray) (hs : s.size ≤ 140737488351232) : usherlaw6_flipped.f s mask = some (flipS mask s) := by
  unfold usherlaw6_flipped.f flipS; rw [if_pos hs]
theorem flip_bytes (mask : Int) (s : ByteArray) : bytesOf (flipS mask s) = flipTo mask s s.size := by
  unfold flipS
  refine bytesOf_strOfNums fun x hx => ?_
  unfold flipTo at hx
  obtain ⟨i, _, rfl⟩ := List.mem_map.1 hx
  exact flipI_range _ _ (bt_range s i).1 (bt_range s i).2
theorem flip_size (mask : Int) (s : ByteArray) : (flipS mask s).size = s.size := by
  rw [size_eq, flip_bytes, flipTo_length]
theorem low_flip (mask : Int) (s : ByteArray) : lowS (flipS mask s) = lowS s := by
  unfold lowS
  rw [flip_bytes]
  congr 1
  unfold flipTo
  rw [List.map_map]
  have hl := bytesOf_length s
  apply List.ext_getElem
  · simp [hl]
  · intro i h1 h2
    simp only [List.getElem_map, List.getElem_range, Function.comp, lowI_flip]
    rw [bt_nat, List.getD_eq_getElem?_getD, List.getElem?_eq_getElem (by simpa using h2)]
    rfl
def flipP (mask : Int) (l : List S34) : List S34 := l.map fun x => ⟨flipS mask x.f0, x.f1⟩
theorem hit_flip (key : ByteArray) (mask : Int) (l : List S34) (a : ByteArray × Int) : (flipP mask l).foldl (hit key) a = l.foldl (hit key) a := by
  unfold flipP
  rw [List.foldl_map]
  congr 1
  funext b x
  simp only [hit, low_flip]
theorem hit_snd (key : ByteArray) (l : List S34) : ∀ (v : ByteArray) (n : Nat), ∃ m : Nat, m ≤ l.length ∧ (l.foldl (hit key) (v, (n : Int))).2 = n + m ∧ ∀ (v' : ByteArray) (n' : Nat), (l.foldl (hit key) (v', (n' : Int))).2 = n' + m := by
  induction l with
  | nil => intro v n; exact ⟨0, by simp, by simp, fun _ _ => by simp⟩
  | cons x l ih =>
    intro v n
    by_cases hk : lowS x.f0 = key
    · obtain ⟨m, hm, _, h⟩ := ih v n
      have : ∀ (v' : ByteArray) (n' : Nat), ((x :: l).foldl (hit key) (v', (n' : Int))).2 = n' + (m + 1 : Nat) := by
        intro v' n'
        rw [List.foldl_cons]
        have h2 : (n' : Int) + 1 = ((n' + 1 : Nat) : Int) := by omega
        unfold hit
        rw [if_pos hk]
        split
        · rw [h2]; have := h x.f1 (n' + 1); unfold hit at this; rw [this]; omega
        · rw [h2]; have := h v' (n' + 1); unfold hit at this; rw [this]; omega
      exact ⟨m + 1, by simp; omega, this v n, this⟩
    · obtain ⟨m, hm, _, h⟩ := ih v n
      have : ∀ (v' : ByteArray) (n' : Nat), ((x :: l).foldl (hit key) (v', (n' : Int))).2 = n' + (m : Nat) := by
        intro v' n'
        rw [List.foldl_cons]
        have h3 : hit key (v', (n' : Int)) x = (v', (n' : Int)) := by unfold hit; rw [if_neg hk]
        rw [h3]; exact h v' n'
      exact ⟨m, by simp; omega, this v n, this⟩
theorem hit_fst (key : ByteArray) (l : List S34) : ∀ (v : ByteArray) (n : Nat), (l.foldl (hit key) (v, ((n + 1 : Nat) : Int))).1 = v := by
  induction l with
  | nil => intro v n; rfl
  | cons x l ih =>
    intro v n
    rw [List.foldl_cons]
    by_cases hk : lowS x.f0 = key
    · have : hit key (v, ((n + 1 : Nat) : Int)) x = (v, ((n + 1 + 1 : Nat) : Int)) := by
        unfold hit; rw [if_pos hk, if_neg (by dsimp only; omega)]; simp
      rw [this]; exact ih v (n + 1)
    · have : hit key (v, ((n + 1 : Nat) : Int)) x = (v, ((n + 1 : Nat) : Int)) := by
        unfold hit; rw [if_neg hk]
      rw [this]; exact ih v n
theorem FieldCaseBlind_pure (l : List S34) (s : ByteArray) (mask : Int) (hl : PairsOk l) (hs : s.size ≤ 140737488351232) (_ : (Lit.int .i64 mask).wf = true) : ∃ k, usherlaw6_FieldCaseBlind.f k l s mask = some true := by
  refine Ev.rounds (g := fun k => usherlaw6_FieldCaseBlind.f k l s mask) ?_
  have hx : ∀ x ∈ l, x.f0.size ≤ 140737488351232 := fun x h => (hl.2 x h).1
  have hln : l.length ≤ 4398046510976 := by have := hl.1; omega
  have hfs : (flipS mask s).size ≤ 140737488351232 := by rw [flip_size]; exact hs
  simp only [usherlaw6_FieldCaseBlind.f, flip_some mask s hs, Option.bind_some]
  refine (Lookup.ev l s (by omega) hx hs).bind ((Lookup.ev l _ (by omega) hx hfs).bind ?_)
  rw [low_flip]
  refine Ev.if_pos rfl ?_
  rw [bne_self_eq_false]
  refine Ev.step (f := fun k => usherlaw6_FieldCaseBlind.j0 (k + 1) (lookS l (lowS s)).2 false l s mask) (fun _ => rfl) ?_
  simp only [usherlaw6_FieldCaseBlind.j0, flip_some mask s hs, Option.bind_some]
  refine Ev.if_neg (by simp) (Ev.if_pos (by simp) ?_)
  obtain ⟨m, hm, hm1, hm2⟩ := hit_snd (lowS s) l (⟨#[]⟩ : ByteArray) 0
  have hfl : (flipP mask l).length = l.length := by simp [flipP]
  have H := Ev.loop (F := fun k (i : Nat) => usherlaw6_FieldCaseBlind.l0 k (lookS l (lowS s)).2 ((⟨flipS mask s, ⟨#[102, 105, 114, 115, 116]⟩⟩ : S34) :: (flipP mask l).take i) (i : Int) l s mask) (r := fun _ => true) (fun i => i ≤ l.length) (fun i => l.length - i) (by
    intro i hi ih
    by_cases h : i < l.length
    · simp only [usherlaw6_FieldCaseBlind.l0]
      refine Ev.if_pos (by omega) (Ev.if_pos (by omega) ?_)
      rw [rdP_nat]
      have hmx := hx _ (getD_mem (z := z34) h)
      rw [flip_some mask _ hmx]
      simp only [Option.bind_some]
      refine Ev.if_pos (by simp; omega) ?_
      rw [wrap64_of (by omega)]
      have hn : (i : Int) + 1 = ((i + 1 : Nat) : Int) := by omega
      have ht : (⟨flipS mask s, ⟨#[102, 105, 114, 115, 116]⟩⟩ : S34) :: (flipP mask l).take i ++ [⟨flipS mask (l.getD i z34).f0, (l.getD i z34).f1⟩] = (⟨flipS mask s, ⟨#[102, 105, 114, 115, 116]⟩⟩ : S34) :: (flipP mask l).take (i + 1) := by
        rw [take_snoc (flipP mask l) i z34 (by omega)]
        simp [flipP, List.getD_eq_getElem?_getD, List.getElem?_eq_getElem h]
      rw [ht, hn]
      exact ih (i + 1) (by omega) (by omega)
    · simp only [usherlaw6_FieldCaseBlind.l0]
      refine Ev.if_neg (by omega) ?_
      rw [List.take_of_length_le (by omega)]
      refine (Lookup.ev _ s (by simp; omega) (by
        intro x hm
        rcases List.mem_cons.1 hm with rfl | hm
        · rw [flip_size]; exact hs
        · obtain ⟨y, hy, rfl⟩ := List.mem_map.1 hm
          rw [flip_size]; exact hx y hy) hs).bind ?_
      have e0 : lookS ((⟨flipS mask s, ⟨#[102, 105, 114, 115, 116]⟩⟩ : S34) :: flipP mask l) (lowS s) = l.foldl (hit (lowS s)) (⟨#[102, 105, 114, 115, 116]⟩, ((0 + 1 : Nat) : Int)) := by
        unfold lookS
        rw [List.foldl_cons, hit_flip]
        congr 1
        simp [hit, low_flip]
      rw [e0]
      refine Ev.if_pos (by rw [hit_fst]; exact (toList_lit _ _).2 rfl) ?_
      have e1 : (l.foldl (hit (lowS s)) (⟨#[102, 105, 114, 115, 116]⟩, ((0 + 1 : Nat) : Int))).2 = ((0 + 1 : Nat) : Int) + m := hm2 _ _
      have e2 : (lookS l (lowS s)).2 = (m : Int) := by unfold lookS; have := hm2 (⟨#[]⟩ : ByteArray) 0; simpa using this
      rw [e1, e2, wrap64_of (by omega)]
      refine Ev.eq (Ev.now _) ?_
      rw [beq_iff_eq]; omega) 0 (by omega)
  simpa using H
end Go.Proofs.Ytbkhgmmlacdhoaa.Q
