/- What reply.head and reply.heading answer, as plain functions of the bytes. Conditions: the text has at most 2^31 bytes. -/
import Derived.Test.YtdlfdmbaejhaaaaDoorQ7
import Derived.Test.YtdlfdmbaejhaaaaDoorPRender
import Derived.Lib.SplitLaws
set_option linter.unusedVariables false
set_option linter.unusedSimpArgs false
namespace Go.Proofs.YtdlfdmbaejhaaaaDoor.Q
open Go.RowKit Go.Proofs.YtdlfdmbaejhaaaaDoorW.PrintWords Go.Proofs.YtdlfdmbaejhaaaaDoorW.PrintLast Go.Proofs.YtdlfdmbaejhaaaaDoorW.PrintMore
theorem trimS_len (s p : List UInt8) : (Lib.trimSuffix s p).length ≤ s.length := by
  unfold Lib.trimSuffix; split <;> simp <;> omega
theorem trimS_app (a p : List UInt8) : Lib.trimSuffix (a ++ p) p = a := by
  unfold Lib.trimSuffix Lib.hasSuffix
  rw [if_pos (by rw [List.isSuffixOf_iff_suffix]; exact List.suffix_append _ _)]
  simp
def zeroL : List UInt8 := [67, 111, 110, 116, 101, 110, 116, 45, 76, 101, 110, 103, 116, 104, 58, 32, 48, 13, 10]
/-- What head answers. -/
def headU (s : Int) (fs : List PU) (c : Bool) (n : Int) : List UInt8 := if 64 < fs.length then [] else
  Lib.trimSuffix (Lib.trimSuffix (renderU s fs [] c true).1 [13, 10, 13, 10]) (zeroL ++ connU c) ++ (clenU ++ (Lib.itoa n ++ (crlf ++ connU c)))
theorem linesU_app (a b : List (List UInt8)) : linesU (a ++ b) = linesU a ++ linesU b := by
  induction a with
  | nil => rfl
  | cons x a ih => simp only [List.cons_append, linesU, ih, List.append_assoc]
theorem linesU_fields (fs : List PU) : (linesU (fs.map fieldU)).length = bulkP fs := by
  induction fs with
  | nil => rfl
  | cons x fs ih =>
    have hb : bulkP (x :: fs) = x.1.length + x.2.length + 4 + bulkP fs := rfl
    rw [hb, ← ih]
    simp [linesU, fieldU, crlf]; omega
theorem renderU_len (s : Int) (fs : List PU) (b : List UInt8) (c bare : Bool) : (renderU s fs b c bare).1.length ≤ 200 + bulkP fs + b.length := by
  unfold renderU
  split
  · simp
  · rename_i hb
    cases hp : phrOf phrasesL s with
    | none => simp
    | some p =>
      dsimp only
      split
      · obtain ⟨hm, rfl⟩ := phrOf_mem _ _ _ hp
        obtain ⟨_, _, hc, hd, _, _⟩ := phr_props hm
        have hj := congrArg List.length (linesU_join (headLs p fs b.length c) (by simp [headLs]))
        have hi := itoa_len b.length (by omega)
        have hl : (linesU (headLs p fs b.length c)).length = 15 + p.2.length + bulkP fs + (linesU (tailLs b.length c)).length := by
          show (stU p ++ (crlf ++ linesU (fs.map fieldU ++ tailLs b.length c))).length = _
          rw [linesU_app]
          simp only [List.length_append, linesU_fields]
          have : (stU p).length = 13 + p.2.length := by simp [stU, hc]; omega
          rw [this]; simp only [crlf, List.length_cons, List.length_nil]; omega
        have ht : (linesU (tailLs b.length c)).length ≤ 60 := by
          cases c <;> simp [tailLs, linesU, connU, clenU, crlf] <;> omega
        unfold textU
        rw [List.length_append] at hj ⊢
        have hx : ([13, 10, 13, 10] ++ (if bare = true then [] else b) : List UInt8).length ≤ 4 + b.length := by split <;> simp <;> omega
        have : crlf.length = 2 := rfl
        omega
      · simp
theorem trimS_some (s p : ByteArray) (h : s.size ≤ 9223372036854775807) : strings_TrimSuffix.f s p = some (mk (Lib.trimSuffix (U s) (U p))) := by
  unfold strings_TrimSuffix.f; rw [if_pos h]; rfl
theorem reply_head.ev (s : Int) (fs : List S26) (c : Bool) (n : Int) (h0 : 0 ≤ n) (h1 : n ≤ 1048576) (hz : bulkP (fs.map pU) ≤ 35184372088832) :
    Ev (fun k => reply_head.f k s fs (⟨#[]⟩ : ByteArray) c n) (mk (headU s (fs.map pU) c n)) := by
  simp only [reply_head.f]
  unfold headU
  rw [List.length_map]
  by_cases h64 : 64 < fs.length
  · rw [if_pos h64]; exact Ev.if_pos (by omega) (Ev.now _)
  · rw [if_neg h64]
    refine Ev.if_neg (by omega) ((reply_Render.ev s fs (⟨#[]⟩ : ByteArray) c true hz).bind ?_)
    rw [U_empty]
    have hr := renderU_len s (fs.map pU) [] c true
    generalize (renderU s (fs.map pU) [] c true).1 = t at *
    simp only [List.length_nil] at hr
    have ht := trimS_len t [13, 10, 13, 10]
    have hit := itoa_len n.toNat (by omega)
    rw [Int.toNat_of_nonneg h0] at hit
    simp only [trimS_some (mk t) _ (by rw [mk_size]; omega), Option.bind_some, U_mk, itoa_some n (by omega)]
    have e1 : U (⟨#[13, 10, 13, 10]⟩ : ByteArray) = [13, 10, 13, 10] := rfl
    rw [e1]
    have ez : ((mk (Lib.trimSuffix t [13, 10, 13, 10]))).size = (Lib.trimSuffix t [13, 10, 13, 10]).length := mk_size _
    generalize Lib.trimSuffix t [13, 10, 13, 10] = t1 at *
    simp only [trimS_some (mk t1) _ (by rw [mk_size]; omega), Option.bind_some, U_mk]
    have en : (mk (Lib.itoa n)).size = (Lib.itoa n).length := mk_size _
    have key : ∀ z : ByteArray, (Lib.trimSuffix t1 z.data.toList).length ≤ t1.length := fun z => trimS_len _ _
    cases c
    · refine Ev.if_neg (by simp) (Ev.if_pos (by omega) ?_)
      have e2 : U ((⟨#[67, 111, 110, 116, 101, 110, 116, 45, 76, 101, 110, 103, 116, 104, 58, 32, 48, 13, 10]⟩ : ByteArray) ++ (⟨#[67, 111, 110, 110, 101, 99, 116, 105, 111, 110, 58, 32, 107, 101, 101, 112, 45, 97, 108, 105, 118, 101]⟩ : ByteArray)) = zeroL ++ connU false := by rw [U_app]; rfl
      rw [e2]
      have ht2 := trimS_len t1 (zeroL ++ connU false)
      generalize Lib.trimSuffix t1 (zeroL ++ connU false) = t2 at *
      have z0 : (mk t2).size = t2.length := mk_size _
      have z1 : (mk t2 ++ (⟨#[67, 111, 110, 116, 101, 110, 116, 45, 76, 101, 110, 103, 116, 104, 58, 32]⟩ : ByteArray)).size = t2.length + 16 := by rw [ByteArray.size_append, z0]; rfl
      have z2 : ((mk t2 ++ (⟨#[67, 111, 110, 116, 101, 110, 116, 45, 76, 101, 110, 103, 116, 104, 58, 32]⟩ : ByteArray)) ++ mk (Lib.itoa n)).size = t2.length + 16 + (Lib.itoa n).length := by rw [ByteArray.size_append, z1, en]
      have z3 : (((mk t2 ++ (⟨#[67, 111, 110, 116, 101, 110, 116, 45, 76, 101, 110, 103, 116, 104, 58, 32]⟩ : ByteArray)) ++ mk (Lib.itoa n)) ++ (⟨#[13, 10]⟩ : ByteArray)).size = t2.length + 16 + (Lib.itoa n).length + 2 := by rw [ByteArray.size_append, z2]; rfl
      refine Ev.if_pos (by rw [z0]; omega) (Ev.if_pos (by rw [z1, en]; omega) (Ev.if_pos (by rw [z2]; omega) (Ev.if_pos (by rw [z3]; omega) ?_)))
      refine Ev.eq (Ev.now _) (U_inj ?_)
      rw [U_app, U_app, U_app, U_app, U_mk, U_mk, U_mk]
      show (((t2 ++ clenU) ++ Lib.itoa n) ++ crlf) ++ connU false = _
      simp only [List.append_assoc]
    · refine Ev.if_pos rfl (Ev.if_pos (by omega) ?_)
      have e2 : U ((⟨#[67, 111, 110, 116, 101, 110, 116, 45, 76, 101, 110, 103, 116, 104, 58, 32, 48, 13, 10]⟩ : ByteArray) ++ (⟨#[67, 111, 110, 110, 101, 99, 116, 105, 111, 110, 58, 32, 99, 108, 111, 115, 101]⟩ : ByteArray)) = zeroL ++ connU true := by rw [U_app]; rfl
      rw [e2]
      have ht2 := trimS_len t1 (zeroL ++ connU true)
      generalize Lib.trimSuffix t1 (zeroL ++ connU true) = t2 at *
      have z0 : (mk t2).size = t2.length := mk_size _
      have z1 : (mk t2 ++ (⟨#[67, 111, 110, 116, 101, 110, 116, 45, 76, 101, 110, 103, 116, 104, 58, 32]⟩ : ByteArray)).size = t2.length + 16 := by rw [ByteArray.size_append, z0]; rfl
      have z2 : ((mk t2 ++ (⟨#[67, 111, 110, 116, 101, 110, 116, 45, 76, 101, 110, 103, 116, 104, 58, 32]⟩ : ByteArray)) ++ mk (Lib.itoa n)).size = t2.length + 16 + (Lib.itoa n).length := by rw [ByteArray.size_append, z1, en]
      have z3 : (((mk t2 ++ (⟨#[67, 111, 110, 116, 101, 110, 116, 45, 76, 101, 110, 103, 116, 104, 58, 32]⟩ : ByteArray)) ++ mk (Lib.itoa n)) ++ (⟨#[13, 10]⟩ : ByteArray)).size = t2.length + 16 + (Lib.itoa n).length + 2 := by rw [ByteArray.size_append, z2]; rfl
      refine Ev.if_pos (by rw [z0]; omega) (Ev.if_pos (by rw [z1, en]; omega) (Ev.if_pos (by rw [z2]; omega) (Ev.if_pos (by rw [z3]; omega) ?_)))
      refine Ev.eq (Ev.now _) (U_inj ?_)
      rw [U_app, U_app, U_app, U_app, U_mk, U_mk, U_mk]
      show (((t2 ++ clenU) ++ Lib.itoa n) ++ crlf) ++ connU true = _
      simp only [List.append_assoc]
/-- The phrase of a number of the table. -/
theorem phrOf_at : ∀ p ∈ phrasesL, phrOf phrasesL p.1 = some p := by
  have : phrasesL.all (fun p => decide (phrOf phrasesL p.1 = some p)) = true := by decide +kernel
  intro p hp
  simpa using List.all_eq_true.1 this p hp
/-- The head of an answer that may be. -/
theorem headU_valid {p : Int × List UInt8} (hp : p ∈ phrasesL) {fs : List PU} (h64 : fs.length ≤ 64) (hm : fs.all mayP = true) (c : Bool) (n : Nat) : headU p.1 fs c n = joinL (headLs p fs n c) := by
  unfold headU renderU
  rw [if_neg (by omega), if_neg (by simp; omega), phrOf_at p hp]
  dsimp only
  rw [if_pos hm]
  dsimp only
  unfold textU
  rw [if_pos rfl, List.append_nil, trimS_app]
  have h1 : ∀ m : Nat, joinL (headLs p fs m c) = linesU (stU p :: fs.map fieldU) ++ ((clenU ++ (Lib.itoa (m : Int) ++ crlf)) ++ connU c) := fun m => by
    have hj := linesU_join (headLs p fs m c) (by simp [headLs])
    have hl : linesU (headLs p fs m c) = linesU (stU p :: fs.map fieldU) ++ ((clenU ++ (Lib.itoa (m : Int) ++ crlf)) ++ connU c ++ crlf) := by
      have : headLs p fs m c = (stU p :: fs.map fieldU) ++ tailLs m c := rfl
      rw [this, linesU_app]
      refine congrArg _ ?_
      simp only [tailLs, linesU, List.append_assoc, List.append_nil]
    rw [hl, ← List.append_assoc] at hj
    exact (List.append_cancel_right hj).symm
  rw [h1, h1]
  have e : (clenU ++ (Lib.itoa (([] : List UInt8).length : Int) ++ crlf)) = zeroL := by decide +kernel
  rw [e, trimS_app]
  simp only [List.append_assoc]
/-! ### heading -/
abbrev HRes := Int × List S26 × ByteArray × Bool × Int × Bool
def noH : HRes := (0, [], ⟨#[]⟩, false, 0, false)
/-- What heading answers: the lines one by one. -/
def scanU (x : List UInt8) : List (List UInt8) → Int → Nat → Int → List S26 → HRes
  | [], _, _, _, _ => noH
  | l :: r, z, c, s, fs =>
    if 68 < c + 1 then noH
    else if c = 0 then (if statusU l = 0 then noH else scanU x r z 1 (statusU l) fs)
    else if 0 ≤ z then
      (if l = connU true then (s, fs, ⟨#[]⟩, true, z, x == headU s (fs.map pU) true z)
      else if l = connU false then (s, fs, ⟨#[]⟩, false, z, x == headU s (fs.map pU) false z) else noH)
    else if (Lib.cut l [58, 32]).2.2 = true then
      (if 0 ≤ sizeU l then scanU x r (sizeU l) (c + 1) s fs
      else if mayU (Lib.cut l [58, 32]).1 (Lib.cut l [58, 32]).2.1 = true then scanU x r (sizeU l) (c + 1) s (fs ++ [⟨mk (Lib.cut l [58, 32]).1, mk (Lib.cut l [58, 32]).2.1⟩])
      else noH)
    else noH
theorem cut_len (l sub : List UInt8) : (Lib.cut l sub).1.length + (Lib.cut l sub).2.1.length ≤ l.length := by
  unfold Lib.cut
  split
  · simp only [List.length_take, List.length_drop]; omega
  · simp
theorem bulk_snoc (fs : List S26) (a b : List UInt8) : bulkP ((fs ++ [(⟨mk a, mk b⟩ : S26)]).map pU) = bulkP (fs.map pU) + (a.length + b.length + 4) := by
  unfold bulkP
  rw [List.map_append, List.map_append, List.sum_append]
  simp [pU]
def lens (ls : List (List UInt8)) : Nat := (ls.map List.length).sum
theorem heading_l0.ev (x : ByteArray) (ls : List (List UInt8)) (hx : x.size ≤ 2147483648) (hl : lens ls ≤ 2147483648) (hn : ls.length < 4398046511104) :
    Ev (fun k => reply_heading.l0 k x (-1) 0 (ls.map mk) ((ls.map mk).length : Int) 0 0 [] (⟨#[]⟩ : ByteArray) false) (scanU (U x) ls (-1) 0 0 []) := by
  have H := Ev.loop (F := fun k (y : Int × Nat × Int × List S26) => reply_heading.l0 k x y.1 (y.2.1 : Int) (ls.map mk) ((ls.map mk).length : Int) (y.2.1 : Int) y.2.2.1 y.2.2.2 (⟨#[]⟩ : ByteArray) false) (r := fun y => scanU (U x) (ls.drop y.2.1) y.1 y.2.1 y.2.2.1 y.2.2.2) (fun y => -1 ≤ y.1 ∧ y.1 ≤ 1048576 ∧ y.2.1 ≤ 68 ∧ y.2.2.2.length ≤ y.2.1 ∧ bulkP (y.2.2.2.map pU) + lens (ls.drop y.2.1) ≤ 2147483648 + 4 * y.2.1) (fun y => 70 - y.2.1) (by
    rintro ⟨z, c, s, fs⟩ ⟨hz0, hz1, hc, hfl, hb⟩ ih
    dsimp only at hz0 hz1 hc hfl hb
    simp only [reply_heading.l0]
    by_cases h : c < ls.length
    · have hd : ls.drop c = ls[c] :: ls.drop (c + 1) := List.drop_eq_getElem_cons h
      have hr : rdOf ByteArray.empty (ls.map mk) (c : Int) = mk ls[c] := by
        unfold rdOf
        simp [List.getD_eq_getElem?_getD, List.getElem?_eq_getElem h]
      rw [hd] at hb ⊢
      simp only [hr]
      generalize ls[c] = l at *
      have hls : lens (l :: ls.drop (c + 1)) = l.length + lens (ls.drop (c + 1)) := rfl
      rw [hls] at hb
      have hml := mk_size l
      refine Ev.if_pos (by rw [List.length_map]; omega) (Ev.if_pos (by omega) (Ev.if_pos (by rw [List.length_map]; omega) ?_))
      rw [wrap64_of (by omega)]
      unfold scanU
      by_cases h68 : 68 < c + 1
      · rw [if_pos h68]; exact Ev.if_pos (by omega) (Ev.now _)
      · rw [if_neg h68]
        refine Ev.if_neg (by omega) ?_
        by_cases hc0 : c = 0
        · subst hc0
          rw [if_pos rfl]
          refine Ev.if_pos rfl ((reply_status.ev (mk l)).bind ?_)
          rw [U_mk]
          by_cases ht : statusU l = 0
          · rw [if_pos ht]; exact Ev.if_pos ht (Ev.now _)
          · rw [if_neg ht]
            refine Ev.if_neg ht ?_
            have := ih (z, 1, statusU l, fs) ⟨hz0, hz1, by dsimp only; omega, by dsimp only; omega, by dsimp only; simp only [Nat.zero_add] at hb; omega⟩ (by dsimp only; omega)
            exact this
        · rw [if_neg hc0]
          refine Ev.if_neg (by omega) ?_
          by_cases hz : 0 ≤ z
          · rw [if_pos hz]
            refine Ev.if_pos hz ?_
            have eb : ∀ cl : Bool, Ev (fun k => (reply_head.f k s fs (⟨#[]⟩ : ByteArray) cl z).bind fun t => some (s, fs, (⟨#[]⟩ : ByteArray), cl, z, (x.toList == t.toList))) (s, fs, (⟨#[]⟩ : ByteArray), cl, z, U x == headU s (fs.map pU) cl z) := fun cl => by
              refine (reply_head.ev s fs cl z hz hz1 (by omega)).bind ?_
              rw [toList_U, toList_U, U_mk]; exact Ev.now _
            by_cases h1 : l = connU true
            · rw [if_pos h1]; exact Ev.if_pos (by rw [toList_U, U_mk]; exact h1) (eb true)
            · rw [if_neg h1]
              refine Ev.if_neg (by rw [toList_U, U_mk]; exact h1) ?_
              by_cases h2 : l = connU false
              · rw [if_pos h2]; exact Ev.if_pos (by rw [toList_U, U_mk]; exact h2) (eb false)
              · rw [if_neg h2]; exact Ev.if_neg (by rw [toList_U, U_mk]; exact h2) (Ev.now _)
          · rw [if_neg hz]
            refine Ev.if_neg (by omega) ?_
            have hcut : strings_Cut.f (mk l) (⟨#[58, 32]⟩ : ByteArray) = some (mk (Lib.cut l [58, 32]).1, mk (Lib.cut l [58, 32]).2.1, (Lib.cut l [58, 32]).2.2) := by
              unfold strings_Cut.f; rw [if_pos (by omega)]; rfl
            simp only [hcut, Option.bind_some]
            by_cases hq : (Lib.cut l [58, 32]).2.2 = true
            · rw [if_pos hq]
              refine Ev.if_pos hq ((reply_size.ev (mk l) (by omega)).bind ?_)
              rw [U_mk]
              have hsz := sizeU_le l
              by_cases ht : 0 ≤ sizeU l
              · rw [if_pos ht]
                refine Ev.if_pos ht ?_
                have := ih (sizeU l, c + 1, s, fs) ⟨hsz.2, hsz.1, by dsimp only; omega, by dsimp only; omega, by dsimp only; omega⟩ (by dsimp only; omega)
                exact this
              · rw [if_neg ht]
                have hcl := cut_len l [58, 32]
                refine Ev.if_neg (by omega) ((reply_may.ev _ _ (by rw [mk_size]; omega) (by rw [mk_size]; omega)).bind ?_)
                rw [U_mk, U_mk]
                by_cases hm : mayU (Lib.cut l [58, 32]).1 (Lib.cut l [58, 32]).2.1 = true
                · rw [if_pos hm]
                  refine Ev.if_pos hm (Ev.if_pos (by omega) ?_)
                  have := ih (sizeU l, c + 1, s, fs ++ [⟨mk (Lib.cut l [58, 32]).1, mk (Lib.cut l [58, 32]).2.1⟩]) ⟨hsz.2, hsz.1, by dsimp only; omega, by dsimp only; rw [List.length_append]; simp only [List.length_cons, List.length_nil]; omega, by dsimp only; rw [bulk_snoc]; omega⟩ (by dsimp only; omega)
                  exact this
                · rw [if_neg hm]; exact Ev.if_neg hm (Ev.now _)
            · rw [if_neg hq]; exact Ev.if_neg hq (Ev.now _)
    · refine Ev.if_neg (by rw [List.length_map]; omega) ?_
      rw [List.drop_eq_nil_of_le (by omega)]
      exact Ev.now _) (-1, 0, 0, []) ⟨by dsimp only; omega, by dsimp only; omega, by dsimp only; omega, by simp, by
        show 0 + lens ls ≤ _; omega⟩
  exact H
/-- The lines of a text. -/
def splitU (x : ByteArray) : List (List UInt8) := (Lib.splitB ⟨#[13, 10]⟩ 0 (Lib.countB x ⟨#[13, 10]⟩) x).map U
theorem splitB_lens : ∀ (k : Nat) (s : ByteArray), lens ((Lib.splitB ⟨#[13, 10]⟩ 0 k s).map U) ≤ s.size
  | 0, s => by rw [Lib.splitB_zero]; show (U s).length + 0 ≤ _; rw [size_U]; omega
  | k + 1, s => by
    unfold Lib.splitB
    split
    · show (U s).length + 0 ≤ _; rw [size_U]; omega
    · have ih := splitB_lens k (s.extract ((Lib.indexB s ⟨#[13, 10]⟩).toNat + (⟨#[13, 10]⟩ : ByteArray).size) s.size)
      show (U _).length + lens _ ≤ _
      rw [U_extract, List.length_drop, List.length_take]
      have ih2 := size_U (s.extract ((Lib.indexB s ⟨#[13, 10]⟩).toNat + (⟨#[13, 10]⟩ : ByteArray).size) s.size)
      rw [U_extract_end, List.length_drop] at ih2
      have e : (⟨#[13, 10]⟩ : ByteArray).size = 2 := rfl
      have e2 := size_U s
      omega
theorem reply_heading.ev (x : ByteArray) (hx : x.size ≤ 2147483648) : Ev (fun k => reply_heading.f k x) (scanU (U x) (splitU x) (-1) 0 0 []) := by
  simp only [reply_heading.f, strings_Split.f]
  rw [if_pos ⟨by omega, by decide⟩]
  simp only [Option.bind_some]
  have e : Lib.splitB ⟨#[13, 10]⟩ 0 (Lib.countB x ⟨#[13, 10]⟩) x = (splitU x).map mk := by
    unfold splitU; rw [List.map_map]
    have : (mk ∘ U) = id := by funext s; exact mk_U s
    rw [this, List.map_id]
  have h1 := splitB_lens (Lib.countB x ⟨#[13, 10]⟩) x
  have h2 := Lib.countB_le ⟨#[13, 10]⟩ (by decide) x.size x (Nat.le_refl _)
  have h3 := Lib.splitB_all ⟨#[13, 10]⟩ (by decide) 0 _ x rfl
  rw [e]
  rw [e, List.length_map] at h3
  exact heading_l0.ev x (splitU x) hx (by unfold splitU; omega) (by omega)
end Go.Proofs.YtdlfdmbaejhaaaaDoor.Q
