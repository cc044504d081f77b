/- What reply.Read answers to a text: an answer that begins the text, ErrShort, or ErrText. Conditions: the text has at most 2^31 bytes. -/
import Derived.Test.YtdlfdmbaejhaaaaDoorQ8
import Derived.Test.YtdlfdmbaejhaaaaDoorPHead
set_option linter.unusedVariables false
set_option linter.unusedSimpArgs false
namespace Go.Proofs.YtdlfdmbaejhaaaaDoor.Q
open Go.RowKit Go.Proofs.YtdlfdmbaejhaaaaDoorW.PrintWords Go.Proofs.YtdlfdmbaejhaaaaDoorW.PrintLast Go.Proofs.YtdlfdmbaejhaaaaDoorW.PrintMore
def unP (q : PU) : S26 := ⟨mk q.1, mk q.2⟩
theorem unP_pU (x : S26) : unP (pU x) = x := by cases x; simp [unP, pU]
theorem pU_unP (q : PU) : pU (unP q) = q := by simp [unP, pU]
theorem map_unP (fs : List PU) : (fs.map unP).map pU = fs := by
  rw [List.map_map]
  have : (pU ∘ unP) = id := by funext q; exact pU_unP q
  rw [this, List.map_id]
theorem map_pU (fs : List S26) : (fs.map pU).map unP = fs := by
  rw [List.map_map]
  have : (unP ∘ pU) = id := by funext q; exact unP_pU q
  rw [this, List.map_id]
/-- An answer that may be. -/
structure Valid (p : Int × List UInt8) (fs : List PU) (n : Nat) : Prop where
  phr : p ∈ phrasesL
  cnt : fs.length ≤ 64
  may : fs.all mayP = true
  big : n ≤ 1048576
theorem mayP_of {q : PU} (h : mayP q = true) : tokU q.1 = true ∧ valU q.2 = true := by
  unfold mayP mayU at h
  simp only [Bool.and_eq_true] at h
  exact h.1
theorem scan_fields (x : List UInt8) (n : Nat) (c : Bool) (s : Int) : ∀ (fs : List PU) (acc : List S26) (k : Nat), 1 ≤ k → k + fs.length + 2 ≤ 68 → fs.all mayP = true →
    scanU x (fs.map fieldU ++ tailLs n c) (-1) k s acc = scanU x (tailLs n c) (-1) (k + fs.length) s (acc ++ fs.map unP)
  | [], acc, k, _, _, _ => by simp
  | q :: fs, acc, k, hk, hl, hm => by
    rw [List.all_cons, Bool.and_eq_true] at hm
    have hq := mayP_of hm.1
    have hb := tokU_bytes hq.1
    have hc : Lib.cut (fieldU q) [58, 32] = (q.1, q.2, true) := cut_ahead q.1 q.2 (fun b hb' => (hb.2 b hb').2.2.1)
    have hp : Lib.hasPrefix (fieldU q) clenU = false := may_noclen hm.1
    have hz : sizeU (fieldU q) = -1 := by unfold sizeU; rw [if_neg (by rw [hp]; simp)]
    simp only [List.length_cons] at hl
    have ih := scan_fields x n c s fs (acc ++ [unP q]) (k + 1) (by omega) (by omega) hm.2
    rw [List.map_cons, List.cons_append]
    unfold scanU
    rw [if_neg (by omega), if_neg (by omega), if_neg (by omega), hc]
    dsimp only
    rw [if_pos rfl, hz, if_neg (by omega), if_pos (by exact hm.1)]
    refine Eq.trans ih ?_
    rw [List.map_cons, List.length_cons, show k + 1 + fs.length = k + (fs.length + 1) by omega, List.append_assoc]
    rfl
theorem scan_tail (x : List UInt8) (n : Nat) (hn : n ≤ 1048576) (c : Bool) (s : Int) (acc : List S26) (k : Nat) (h1 : 1 ≤ k) (h2 : k + 2 ≤ 68) :
    scanU x (tailLs n c) (-1) k s acc = (s, acc, ⟨#[]⟩, c, (n : Int), x == headU s (acc.map pU) c n) := by
  have hc : (Lib.cut (clenU ++ Lib.itoa (n : Int)) [58, 32]).2.2 = true := by
    have e : clenU ++ Lib.itoa (n : Int) = [67, 111, 110, 116, 101, 110, 116, 45, 76, 101, 110, 103, 116, 104] ++ ((58 :: [32]) ++ Lib.itoa (n : Int)) := rfl
    rw [e, cut_ahead _ _ (by decide)]
  have hz := sizeU_itoa n hn
  unfold tailLs scanU
  rw [if_neg (by omega), if_neg (by omega), if_neg (by omega), if_pos hc, hz, if_pos (by omega)]
  unfold scanU
  rw [if_neg (by omega), if_neg (by omega), if_pos (by omega)]
  cases c
  · rw [if_neg (by decide), if_pos rfl]
  · rw [if_pos rfl]
/-- The head of an answer that may be is read. -/
theorem scan_valid {p : Int × List UInt8} {fs : List PU} {n : Nat} (h : Valid p fs n) (c : Bool) (x : List UInt8) (hx : x = joinL (headLs p fs n c)) :
    scanU x (headLs p fs n c) (-1) 0 0 [] = (p.1, fs.map unP, ⟨#[]⟩, c, (n : Int), true) := by
  have hpr := phr_props h.phr
  have hs := statusU_of p h.phr
  have hcnt := h.cnt
  unfold headLs scanU
  rw [if_neg (by omega), if_pos rfl, hs, if_neg (by omega), scan_fields x n c p.1 fs [] 1 (by omega) (by omega) h.may, scan_tail x n h.big c _ _ _ (by omega) (by omega)]
  rw [List.nil_append, map_unP, headU_valid h.phr h.cnt h.may, hx, beq_self_eq_true]
/-- A head that is read is that of an answer that may be. -/
theorem scan_back (x : List UInt8) (hx : x ≠ []) : ∀ (ls : List (List UInt8)) (z : Int) (k : Nat) (s : Int) (fs : List S26), z ≤ 1048576 → (1 ≤ k → ∃ p ∈ phrasesL, p.1 = s) → (fs.map pU).all mayP = true →
    (scanU x ls z k s fs).2.2.2.2.2 = true → ∃ p gs n c, Valid p gs n ∧ x = joinL (headLs p gs n c) ∧ scanU x ls z k s fs = (p.1, gs.map unP, ⟨#[]⟩, c, (n : Int), true)
  | [], _, _, _, _, _, _, _, h => by simp [scanU, noH] at h
  | l :: r, z, k, s, fs, hz, hs, hm, h => by
    have hno : ¬ noH.2.2.2.2.2 = true := by simp [noH]
    unfold scanU at h ⊢
    by_cases h68 : 68 < k + 1
    · rw [if_pos h68] at h; exact absurd h hno
    · rw [if_neg h68] at h ⊢
      by_cases hk : k = 0
      · rw [if_pos hk] at h ⊢
        by_cases ht : statusU l = 0
        · rw [if_pos ht] at h; exact absurd h hno
        · rw [if_neg ht] at h ⊢
          obtain ⟨p, hp, e, _⟩ := statusIn_some phrasesL l ht
          exact scan_back x hx r z 1 (statusU l) fs hz (fun _ => ⟨p, hp, e⟩) hm h
      · rw [if_neg hk] at h ⊢
        by_cases hz0 : 0 ≤ z
        · rw [if_pos hz0] at h ⊢
          have key : ∀ cl : Bool, (x == headU s (fs.map pU) cl z) = true → ∃ p gs n c, Valid p gs n ∧ x = joinL (headLs p gs n c) ∧ ((s, fs, ⟨#[]⟩, cl, z, x == headU s (fs.map pU) cl z) : HRes) = (p.1, gs.map unP, ⟨#[]⟩, c, (n : Int), true) := by
            intro cl he
            obtain ⟨p, hp, rfl⟩ := hs (by omega)
            have he' := eq_of_beq he
            have h64 : (fs.map pU).length ≤ 64 := by
              rcases Nat.lt_or_ge 64 (fs.map pU).length with h | h
              · unfold headU at he'; rw [if_pos h] at he'; exact absurd he' hx
              · exact h
            have hzn : ((z.toNat : Nat) : Int) = z := Int.toNat_of_nonneg hz0
            refine ⟨p, fs.map pU, z.toNat, cl, ⟨hp, h64, hm, by omega⟩, ?_, ?_⟩
            · rw [he', ← headU_valid hp h64 hm cl z.toNat, hzn]
            · rw [he, map_pU, hzn]
          by_cases h1 : l = connU true
          · rw [if_pos h1] at h ⊢; exact key true h
          · rw [if_neg h1] at h ⊢
            by_cases h2 : l = connU false
            · rw [if_pos h2] at h ⊢; exact key false h
            · rw [if_neg h2] at h; exact absurd h hno
        · rw [if_neg hz0] at h ⊢
          by_cases hq : (Lib.cut l [58, 32]).2.2 = true
          · rw [if_pos hq] at h ⊢
            have hsz := sizeU_le l
            by_cases ht : 0 ≤ sizeU l
            · rw [if_pos ht] at h ⊢
              exact scan_back x hx r (sizeU l) (k + 1) s fs hsz.1 (fun _ => hs (by omega)) hm h
            · rw [if_neg ht] at h ⊢
              by_cases hmy : mayU (Lib.cut l [58, 32]).1 (Lib.cut l [58, 32]).2.1 = true
              · rw [if_pos hmy] at h ⊢
                refine scan_back x hx r (sizeU l) (k + 1) s _ hsz.1 (fun _ => hs (by omega)) ?_ h
                rw [List.map_append, List.all_append, hm, Bool.true_and]
                simp [pU, mayP, hmy]
              · rw [if_neg hmy] at h; exact absurd h hno
          · rw [if_neg hq] at h; exact absurd h hno
theorem scan_nil : (scanU [] (splitU (mk [])) (-1) 0 0 []).2.2.2.2.2 = false := by
  have e : splitU (mk []) = [[]] := by
    unfold splitU
    rw [Lib.splitB_miss _ _ _ _ (by decide)]
    rfl
  rw [e]
  unfold scanU
  rw [if_neg (by omega), if_pos rfl, if_pos (by decide +kernel)]
  rfl
/-! ### the lines of a head -/
theorem itoa_digs (n : Nat) : ∀ b ∈ Lib.itoa (n : Int), b ≠ 13 := by
  intro b hb
  rw [itoa_nat] at hb
  have := List.all_eq_true.1 (dec_props n).1 b hb
  rintro rfl
  exact absurd this (by decide)
theorem phr_dig {p : Int × List UInt8} (h : p ∈ phrasesL) : ∀ b ∈ Lib.itoa p.1, b ≠ 13 := by
  have hp := phr_props h
  have := itoa_digs p.1.toNat
  rw [Int.toNat_of_nonneg (by omega)] at this
  exact this
theorem head_lines {p : Int × List UInt8} {fs : List PU} {n : Nat} (h : Valid p fs n) (c : Bool) : headLs p fs n c ≠ [] ∧ (∀ l ∈ headLs p fs n c, ∀ b ∈ l, b ≠ 13) ∧ ∀ l ∈ (headLs p fs n c).tail, l ≠ [] := by
  have hpr := phr_props h.phr
  have hf : ∀ q ∈ fs, (∀ b ∈ fieldU q, b ≠ 13) ∧ fieldU q ≠ [] := by
    intro q hq
    have hm := List.all_eq_true.1 h.may q hq
    have h2 := mayP_of hm
    have ht := tokU_bytes h2.1
    have hv := valU_bytes h2.2
    refine ⟨fun b hb => ?_, by simp [fieldU]⟩
    unfold fieldU at hb
    simp only [List.mem_append, List.mem_cons, List.not_mem_nil, or_false] at hb
    rcases hb with hb | (rfl | rfl) | hb
    · exact (ht.2 b hb).1
    · decide
    · decide
    · exact (hv b hb).1
  have htl : ∀ l ∈ tailLs n c, (∀ b ∈ l, b ≠ 13) ∧ l ≠ [] := by
    intro l hl
    simp only [tailLs, List.mem_cons, List.not_mem_nil, or_false] at hl
    rcases hl with rfl | rfl
    · refine ⟨fun b hb => ?_, by simp [clenU]⟩
      rw [List.mem_append] at hb
      rcases hb with hb | hb
      · revert b; decide
      · exact itoa_digs n b hb
    · cases c <;> exact ⟨by decide, by decide⟩
  refine ⟨by simp [headLs], fun l hl => ?_, fun l hl => ?_⟩
  · unfold headLs at hl
    rcases List.mem_cons.1 hl with rfl | hl
    · intro b hb
      unfold stU at hb
      simp only [List.mem_append] at hb
      rcases hb with hb | hb | hb | hb
      · revert b; decide
      · exact phr_dig h.phr b hb
      · revert b; decide
      · exact hpr.2.2.2.2.2 b hb
    · rcases List.mem_append.1 hl with hl | hl
      · obtain ⟨q, hq, rfl⟩ := List.mem_map.1 hl
        exact (hf q hq).1
      · exact (htl l hl).1
  · have hl : l ∈ fs.map fieldU ++ tailLs n c := hl
    rcases List.mem_append.1 hl with hl | hl
    · obtain ⟨q, hq, rfl⟩ := List.mem_map.1 hl
      exact (hf q hq).2
    · exact (htl l hl).2
theorem splitU_join (ls : List (List UInt8)) (h : ls ≠ []) (hc : ∀ l ∈ ls, ∀ b ∈ l, b ≠ 13) : splitU (mk (joinL ls)) = ls := by
  unfold splitU
  rw [(split_lines ls h hc).2, joinL_map_mk]
/-! ### Read -/
abbrev RRes := Int × List S26 × ByteArray × Bool × Int × Option Int
def shortR : RRes := (0, [], ⟨#[]⟩, false, 0, some 6)
def textR : RRes := (0, [], ⟨#[]⟩, false, 0, some 2)
def emptyL : List UInt8 := [13, 10, 13, 10]
/-- What Read answers. -/
def readU (t : List UInt8) : RRes :=
  if Lib.index t emptyL < 0 then shortR else
  let x := t.take (Lib.index t emptyL).toNat
  let h := scanU x (splitU (mk x)) (-1) 0 0 []
  if h.2.2.2.2.2 = true then
    (if (t.length : Int) - (Lib.index t emptyL + 4) < h.2.2.2.2.1 then shortR
    else (h.1, h.2.1, mk ((t.drop ((Lib.index t emptyL).toNat + 4)).take h.2.2.2.2.1.toNat), h.2.2.2.1, Lib.index t emptyL + 4 + h.2.2.2.2.1, none))
  else textR
theorem scan_size (x : List UInt8) (h : (scanU x (splitU (mk x)) (-1) 0 0 []).2.2.2.2.2 = true) : ∃ p gs n c, Valid p gs n ∧ x = joinL (headLs p gs n c) ∧ scanU x (splitU (mk x)) (-1) 0 0 [] = (p.1, gs.map unP, ⟨#[]⟩, c, (n : Int), true) := by
  by_cases hx : x = []
  · subst hx; rw [scan_nil] at h; cases h
  · exact scan_back x hx _ _ _ _ _ (by omega) (fun h => absurd h (by omega)) rfl h
theorem reply_Read.ev (t : ByteArray) (ht : t.size ≤ 2147483648) : Ev (fun k => reply_Read.f k t) (readU (U t)) := by
  have hz := size_U t
  have hidx : strings_Index.f t (⟨#[13, 10, 13, 10]⟩ : ByteArray) = some (Lib.index (U t) emptyL) := by unfold strings_Index.f; rw [if_pos (by omega)]; rfl
  simp only [reply_Read.f, hidx, Option.bind_some]
  have e4 : ∀ i : Int, 0 ≤ i → i ≤ 2147483648 → wrap64 (wrap64 (i + 2) + 2) = i + 4 := fun i h0 h1 => by
    rw [wrap64_of (x := i + 2) (by omega), wrap64_of (by omega)]; omega
  unfold readU
  have hroom := Lib.index_room (U t) emptyL
  have hi4 : emptyL.length = 4 := rfl
  generalize hi : Lib.index (U t) emptyL = i at *
  by_cases hneg : i < 0
  · rw [if_pos hneg]; exact Ev.if_pos hneg (Ev.now _)
  · rw [if_neg hneg]
    have hroom := hroom (by omega)
    obtain ⟨m, rfl⟩ : ∃ m : Nat, i = m := ⟨i.toNat, by omega⟩
    refine Ev.if_neg hneg (Ev.if_pos (by omega) (Ev.if_pos (by omega) ?_))
    have ex : t.extract 0 ((m : Nat) : Int).toNat = mk ((U t).take m) := U_inj (by rw [U_extract, U_mk]; simp)
    refine (reply_heading.ev _ (by rw [ex, mk_size, List.length_take]; omega)).bind ?_
    rw [ex, U_mk]
    simp only [Int.toNat_natCast]
    by_cases hok : (scanU ((U t).take m) (splitU (mk ((U t).take m))) (-1) 0 0 []).2.2.2.2.2 = true
    · rw [if_pos hok, if_pos hok]
      obtain ⟨p, gs, n, c, hv, _, hres⟩ := scan_size _ hok
      rw [hres]
      dsimp only
      have hn := hv.big
      rw [e4 m (by omega) (by omega), wrap64_of (x := (t.size : Int) - ((m : Int) + 4)) (by omega)]
      by_cases hsh : (t.size : Int) - ((m : Int) + 4) < (n : Int)
      · rw [if_pos hsh]; refine Ev.eq (Ev.now _) ?_; rw [if_pos (by omega)]; rfl
      · rw [if_neg hsh]
        refine Ev.if_pos (by omega) ?_
        rw [wrap64_of (x := (m : Int) + 4 + (n : Int)) (by omega)]
        refine Ev.if_pos (by omega) (Ev.if_pos (by omega) (Ev.eq (Ev.now _) ?_))
        have eb : t.extract ((m : Int) + 4).toNat ((m : Int) + 4 + (n : Int)).toNat = mk (((U t).drop (m + 4)).take n) := U_inj (by
          rw [U_extract, U_mk, show ((m : Int) + 4).toNat = m + 4 by omega, show ((m : Int) + 4 + (n : Int)).toNat = m + 4 + n by omega, List.drop_take]
          congr 1; omega)
        rw [eb, if_neg (by omega), Int.toNat_natCast]
    · rw [if_neg hok, if_neg hok]; exact Ev.now _
end Go.Proofs.YtdlfdmbaejhaaaaDoor.Q
