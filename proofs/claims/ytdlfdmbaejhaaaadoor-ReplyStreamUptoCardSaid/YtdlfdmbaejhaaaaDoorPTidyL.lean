/- What usherlaw8's tidy makes of an answer may be an answer; what SameReply says of an answer and itself. Conditions: a text has at most 2^40 bytes. -/
import Derived.Test.YtdlfdmbaejhaaaaDoorPTidy
set_option linter.unusedVariables false
set_option linter.unusedSimpArgs false
namespace Go.Proofs.YtdlfdmbaejhaaaaDoor.Q
open Go.RowKit Go.Proofs.YtdlfdmbaejhaaaaDoorW.PrintWords Go.Proofs.YtdlfdmbaejhaaaaDoorW.PrintLast Go.Proofs.YtdlfdmbaejhaaaaDoorW.PrintMore
theorem Pick_some (a n : Int) (h : 1 ≤ n) (hn : n ≤ 4611686018427387904) : ∃ t : Nat, usherkit_Pick.f a n = some (t : Int) ∧ (t : Int) < n := by
  have h1 := Int.tmod_lt_of_pos a (show 0 < n by omega)
  have h2 := Int.lt_tmod_of_pos a (show 0 < n by omega)
  unfold usherkit_Pick.f
  rw [if_neg (by omega), if_neg (by omega)]
  by_cases hp : Int.tmod a n < 0
  · rw [if_pos hp, wrap64_of (by omega)]
    exact ⟨(Int.tmod a n + n).toNat, by rw [Int.toNat_of_nonneg (by omega)], by omega⟩
  · rw [if_neg hp]
    exact ⟨(Int.tmod a n).toNat, by rw [Int.toNat_of_nonneg (by omega)], by omega⟩
theorem Head_some (s : ByteArray) (hs : s.size ≤ 4611686018427387904) : usherkit_Head.f s 1048576 = some (mk ((U s).take 1048576)) := by
  have hz := size_U s
  unfold usherkit_Head.f
  rw [if_neg (by omega)]
  by_cases h : (1048576 : Int) ≥ (s.size : Int)
  · rw [if_pos h, List.take_of_length_le (by omega), mk_U]
  · rw [if_neg h, if_pos (by omega), if_pos (by omega)]
    exact congrArg some (U_inj (by rw [U_extract, U_mk]; rfl))
def tidyQ (q : PU) : PU := (nameU q.1, valueU q.2)
def tidyP (fs : List PU) : List PU := (fs.take 64).map tidyQ
theorem stat_at : ∀ i : Fin 17, ∃ p ∈ phrasesL, p.1 = usherlaw8_statuses.c0 ((i.val : Nat) : Int) := by
  have : ∀ i : Fin 17, phrasesL.any (fun p => decide (p.1 = usherlaw8_statuses.c0 ((i.val : Nat) : Int))) = true := by decide +kernel
  intro i
  obtain ⟨p, hp, h⟩ := List.any_eq_true.1 (this i)
  exact ⟨p, hp, of_decide_eq_true h⟩
theorem tidyP_may (fs : List PU) : (tidyP fs).all mayP = true := by
  rw [List.all_eq_true]
  intro q hq
  obtain ⟨x, _, rfl⟩ := List.mem_map.1 hq
  unfold mayP mayU tidyQ
  rw [nameU_tok, valueU_val, nameU_own]; rfl
theorem tidyP_len (fs : List PU) : (tidyP fs).length ≤ 64 := by unfold tidyP; rw [List.length_map, List.length_take]; omega
theorem tidy_valid {p : Int × List UInt8} (hp : p ∈ phrasesL) (fs : List PU) (b : List UInt8) : Valid p (tidyP fs) (b.take 1048576).length :=
  ⟨hp, tidyP_len fs, tidyP_may fs, by rw [List.length_take]; omega⟩
def tq (x : S26) : S26 := unP (tidyQ (pU x))
theorem tidy.ev (s : Int) (fs : List S26) (body : ByteArray) (c : Bool) (hb : body.size ≤ 4611686018427387904) (hf : fs.length < 4398046511104) (hx : ∀ x ∈ fs, x.f0.size ≤ 1099511627776 ∧ x.f1.size ≤ 1099511627776) :
    ∃ p ∈ phrasesL, Ev (fun k => usherlaw8_tidy.f k s fs body c) (p.1, (tidyP (fs.map pU)).map unP, mk ((U body).take 1048576), c) := by
  obtain ⟨t, ht, htl⟩ := Pick_some s 17 (by omega) (by omega)
  obtain ⟨p, hp, hps⟩ := stat_at ⟨t, by omega⟩
  refine ⟨p, hp, ?_⟩
  simp only [usherlaw8_tidy.f, ht, Option.bind_some]
  refine Ev.if_pos (by omega) (Ev.if_pos (by omega) ?_)
  have hps : p.1 = usherlaw8_statuses.c0 (t : Int) := hps
  rw [← hps]
  have H := Ev.loop (F := fun k (x : List S26 × Nat) => usherlaw8_tidy.l0 k (x.2 : Int) s fs body c p.1 x.1 (⟨#[]⟩ : ByteArray) c) (r := fun x => (p.1, x.1 ++ ((fs.drop x.2).take (64 - x.2)).map tq, mk ((U body).take 1048576), c)) (fun x => x.2 ≤ fs.length ∧ x.1.length ≤ x.2) (fun x => fs.length - x.2) (by
    rintro ⟨a, i⟩ ⟨hi, ha⟩ ih
    dsimp only at hi ha
    simp only [usherlaw8_tidy.l0]
    have stop : ((fs.drop i).take (64 - i)) = [] → Ev (fun k => usherlaw8_tidy.j1 k (i : Int) false s fs body c p.1 a (⟨#[]⟩ : ByteArray) c) (p.1, a ++ ((fs.drop i).take (64 - i)).map tq, mk ((U body).take 1048576), c) := fun e => by
      refine Ev.step (f := fun k => (usherkit_Head.f body 1048576).bind fun t => (some (p.1, a, t, c))) (fun k => by rw [usherlaw8_tidy.j1]; rfl) ?_
      simp only [Head_some body hb, Option.bind_some]
      rw [e, List.map_nil, List.append_nil]
      exact Ev.now _
    by_cases h : i < fs.length
    · refine Ev.if_pos (by omega) ?_
      by_cases h64 : i < 64
      · rw [decide_eq_true (p := (i : Int) < 64) (by omega)]
        have hr : rd_T26 fs (i : Int) = fs[i] := by unfold rd_T26; simp [List.getD_eq_getElem?_getD, List.getElem?_eq_getElem h]
        have hxi := hx fs[i] (List.getElem_mem h)
        have hd : (fs.drop i).take (64 - i) = fs[i] :: (fs.drop (i + 1)).take (64 - (i + 1)) := by
          rw [List.drop_eq_getElem_cons h, show 64 - i = (64 - (i + 1)) + 1 by omega, List.take_succ_cons]
        refine Ev.step (f := fun k => if 0 ≤ (i : Int) then (if (i : Int) < (fs.length : Int) then ((usherlaw8_nameOf.f k ((rd_T26 fs (i : Int)).f0)).bind fun t271 => ((usherlaw8_valueOf.f k ((rd_T26 fs (i : Int)).f1)).bind fun t273 => (if a.length < 4398046511104 then (usherlaw8_tidy.l0 k (wrap64 ((i : Int) + 1)) s fs body c p.1 (a ++ [(⟨t271, t273⟩ : S26)]) (⟨#[]⟩ : ByteArray) c) else (none)))) else (none)) else (none)) (fun k => by rw [usherlaw8_tidy.j1, if_pos rfl]) ?_
        refine Ev.if_pos (by omega) (Ev.if_pos (by omega) ?_)
        rw [hr]
        refine (nameOf.ev _ hxi.1).bind ((valueOf.ev _ hxi.2).bind (Ev.if_pos (by omega) ?_))
        rw [wrap64_of (by omega)]
        have := ih (a ++ [tq fs[i]], i + 1) ⟨by dsimp only; omega, by simp; omega⟩ (by dsimp only; omega)
        dsimp only at this
        rw [hd, List.map_cons]
        rw [List.append_assoc] at this
        exact this
      · rw [decide_eq_false (p := (i : Int) < 64) (by omega)]
        exact stop (by rw [show 64 - i = 0 by omega, List.take_zero])
    · exact Ev.if_neg (by omega) (stop (by rw [List.drop_eq_nil_of_le (by omega), List.take_nil]))) ([], 0) ⟨by dsimp only; omega, by simp⟩
  have e : (tidyP (fs.map pU)).map unP = ((fs.drop 0).take (64 - 0)).map tq := by
    unfold tidyP
    rw [List.drop_zero, ← List.map_take, List.map_map, List.map_map]
    rfl
  rw [e]
  exact H
theorem SamePairs_self (l : List S26) (hl : l.length < 4611686018427387904) : Ev (fun k => usherref0_SamePairs.f k l l) true := by
  have H := Ev.loop (F := fun k (i : Nat) => usherref0_SamePairs.l0 k l l (i : Int)) (r := fun _ => true) (fun i => i ≤ l.length) (fun i => l.length - i) (by
    intro i hi ih
    simp only [usherref0_SamePairs.l0]
    by_cases h : i < l.length
    · refine Ev.if_pos (by omega) (Ev.if_pos (by omega) (Ev.if_pos (by omega) (Ev.if_neg (by simp) ?_)))
      rw [wrap64_of (by omega)]
      exact ih (i + 1) (by omega) (by omega)
    · exact Ev.if_neg (by omega) (Ev.now _)) 0 (by omega)
  simp only [usherref0_SamePairs.f]
  exact Ev.if_pos trivial H
theorem SameReply_self (s : Int) (l : List S26) (b : ByteArray) (c : Bool) (hl : l.length < 4611686018427387904) : Ev (fun k => usherref0_SameReply.f k s l b c s l b c) true := by
  simp only [usherref0_SameReply.f]
  refine (SamePairs_self l hl).bind ?_
  simp only [beq_self_eq_true, if_true]
  exact Ev.now _
/-! ### Read of what Render writes -/
theorem lines_headLs (p : Int × List UInt8) (fs : List PU) (n : Nat) (c : Bool) (hp : p ∈ phrasesL) (hn : n ≤ 1048576) : (joinL (headLs p fs n c)).length ≤ 200 + bulkP fs := by
  have hj := congrArg List.length (linesU_join (headLs p fs n c) (by simp [headLs]))
  obtain ⟨_, _, hc, hd, _, _⟩ := phr_props hp
  have hi := itoa_len n (by omega)
  have hl : (linesU (headLs p fs n c)).length = 15 + p.2.length + bulkP fs + (linesU (tailLs n c)).length := by
    show (stU p ++ (crlf ++ linesU (fs.map fieldU ++ tailLs n c))).length = _
    rw [linesU_app]
    simp only [List.length_append, linesU_fields]
    have : (stU p).length = 13 + p.2.length := by simp [stU, hc]; omega
    rw [this]; simp only [crlf, List.length_cons, List.length_nil]; omega
  have ht : (linesU (tailLs n c)).length ≤ 60 := by
    cases c <;> simp [tailLs, linesU, connU, clenU, crlf] <;> omega
  rw [List.length_append] at hj
  omega
theorem renderU_valid {p : Int × List UInt8} {fs : List PU} {b : List UInt8} (h : Valid p fs b.length) (c bare : Bool) : renderU p.1 fs b c bare = (textU p fs b c bare, none) := by
  have h1 := h.cnt
  have h2 := h.big
  unfold renderU
  rw [if_neg (by omega), phrOf_at p h.phr]
  dsimp only
  rw [if_pos h.may]
/-- The text of an answer begins with its head and an empty line. -/
theorem head_empty {p : Int × List UInt8} {fs : List PU} {n : Nat} (h : Valid p fs n) (c : Bool) (r : List UInt8) : Lib.index (joinL (headLs p fs n c) ++ (emptyL ++ r)) emptyL = ((joinL (headLs p fs n c)).length : Int) := by
  have hl := head_lines h c
  exact index_empty _ r hl.1 hl.2.1 hl.2.2
theorem readU_back {p : Int × List UInt8} {fs : List PU} {b : List UInt8} (h : Valid p fs b.length) (c : Bool) (r : List UInt8) :
    readU (textU p fs b c false ++ r) = (p.1, fs.map unP, mk b, c, ((textU p fs b c false).length : Int), none) := by
  have hl := head_lines h c
  have e : textU p fs b c false ++ r = joinL (headLs p fs b.length c) ++ (emptyL ++ (b ++ r)) := by
    unfold textU; rw [if_neg (by simp)]; simp only [List.append_assoc]; rfl
  have hi := head_empty h c (b ++ r)
  have hs := scan_valid h c _ rfl
  have htl : (textU p fs b c false).length = (joinL (headLs p fs b.length c)).length + 4 + b.length := by
    unfold textU; rw [if_neg (by simp), List.length_append, List.length_append]; simp only [List.length_cons, List.length_nil]; omega
  rw [e]
  unfold readU
  rw [hi, if_neg (by omega)]
  dsimp only
  rw [Int.toNat_natCast, List.take_left, splitU_join _ hl.1 hl.2.1, hs]
  dsimp only
  rw [if_pos rfl, if_neg (by simp only [List.length_append]; have : emptyL.length = 4 := rfl; omega)]
  have hd : (joinL (headLs p fs b.length c) ++ (emptyL ++ (b ++ r))).drop ((joinL (headLs p fs b.length c)).length + 4) = b ++ r := by
    rw [← List.append_assoc]
    have : (joinL (headLs p fs b.length c) ++ emptyL).length = (joinL (headLs p fs b.length c)).length + 4 := by rw [List.length_append]; rfl
    rw [← this, List.drop_left]
  rw [hd, Int.toNat_natCast, List.take_left, htl]
  have : ((joinL (headLs p fs b.length c)).length : Int) + 4 + (b.length : Int) = (((joinL (headLs p fs b.length c)).length + 4 + b.length : Nat) : Int) := by omega
  rw [this]
end Go.Proofs.YtdlfdmbaejhaaaaDoor.Q
