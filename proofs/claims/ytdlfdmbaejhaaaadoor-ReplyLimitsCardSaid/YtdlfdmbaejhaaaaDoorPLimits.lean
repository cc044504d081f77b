/- ReplyLimits answers true. Conditions: none. -/
import Derived.Test.YtdlfdmbaejhaaaaDoorQ15
import Derived.Test.YtdlfdmbaejhaaaaDoorPCore
import Derived.Test.YtdlfdmbaejhaaaaDoorPPick
set_option linter.unusedVariables false
set_option linter.unusedSimpArgs false
namespace Go.Proofs.YtdlfdmbaejhaaaaDoor.Q
open Go.RowKit Go.Proofs.YtdlfdmbaejhaaaaDoorW.PrintWords Go.Proofs.YtdlfdmbaejhaaaaDoorW.PrintLast Go.Proofs.YtdlfdmbaejhaaaaDoorW.PrintMore
/-- The field that stands in these answers. -/
def abP : PU := ([97], [98])
theorem abP_may : mayP abP = true := by decide +kernel
theorem rep_may (n : Nat) : (List.replicate n abP).all mayP = true := by
  rw [List.all_eq_true]
  intro x hx
  rw [(List.mem_replicate.1 hx).2]; exact abP_may
theorem rep_bulk (n : Nat) : bulkP (List.replicate n abP) = 6 * n := by
  induction n with
  | zero => rfl
  | succ n ih =>
    have e : bulkP (List.replicate (n + 1) abP) = 6 + bulkP (List.replicate n abP) := by
      rw [List.replicate_succ]; unfold bulkP; rw [List.map_cons, List.sum_cons]; rfl
    rw [e, ih]; omega
theorem rep_pU (n : Nat) : (List.replicate n (unP abP)).map pU = List.replicate n abP := by
  rw [List.map_replicate, pU_unP]
theorem limits.ev4 (a b : Int) (bad : Bool) (m : Nat) (hm : m ≤ 65) (z : ByteArray) (hz : z.size ≤ 1048577) :
    Ev (fun k => usherlaw8_ReplyLimits.j3 k a b bad (if bad = true then 204 else 200) (List.replicate m (unP abP)) z false) true := by
  have hzz := size_U z
  have hR := reply_Render.ev (if bad = true then 204 else 200) (List.replicate m (unP abP)) z false false (by rw [rep_pU, rep_bulk]; omega)
  rw [rep_pU] at hR
  have hlen : (List.replicate m (unP abP)).length = m := List.length_replicate
  have hlen2 : (List.replicate m abP).length = m := List.length_replicate
  refine Ev.step (fun k => rfl) ?_
  simp only [usherlaw8_ReplyLimits.j3]
  by_cases hbig : 64 < m ∨ 1048576 < z.size
  · have hr : renderU (if bad = true then 204 else 200) (List.replicate m abP) (U z) false false = ([], some 3) := by
      unfold renderU; rw [if_pos (by omega)]
    rw [hr] at hR
    refine hR.bind ?_
    have h4 : ∀ (z' : ByteArray) (s : Int), Ev (fun k => usherlaw8_ReplyLimits.j4 k (mk []) (some 3) true a b bad s (List.replicate m (unP abP)) z' false) true := by
      intro z' s
      refine Ev.step (fun k => rfl) ?_
      simp only [usherlaw8_ReplyLimits.j4]
      exact Ev.if_pos (by simp) (Ev.if_pos (by rw [toList_U, U_mk]) (Ev.now _))
    by_cases h64 : 64 < m
    · exact Ev.if_pos (by omega) (h4 _ _)
    · refine Ev.if_neg (by omega) ?_
      rw [decide_eq_true (show (z.size : Int) > 1048576 by omega)]
      exact h4 _ _
  · have hgo : ∀ (t : ByteArray) (e : Option Int) (st : Int), Ev (fun k => if bad = true then (if t.toList = ([] : List UInt8) then ((usherkit_Num.f e).bind fun t335 => (some (t335 == 1))) else (some false)) else ((reply_Read.f k t).bind fun bt336 => ((usherref0_SameReply.f k st (List.replicate m (unP abP)) z false bt336.1 bt336.2.1 bt336.2.2.1 bt336.2.2.2.1).bind fun t345 => (if e.isNone = true then (if bt336.2.2.2.2.2.isNone = true then (if bt336.2.2.2.2.1 = (t.size : Int) then (some t345) else (some false)) else (some false)) else (some false))))) true →
        Ev (fun k => if ((List.replicate m (unP abP)).length : Int) > 64 then (usherlaw8_ReplyLimits.j4 k t e true a b bad st (List.replicate m (unP abP)) z false) else (usherlaw8_ReplyLimits.j4 k t e (decide ((z.size : Int) > 1048576)) a b bad st (List.replicate m (unP abP)) z false)) true := by
      intro t e st h
      refine Ev.if_neg (by omega) ?_
      rw [decide_eq_false (show ¬ (z.size : Int) > 1048576 by omega)]
      refine Ev.step (fun k => rfl) ?_
      simp only [usherlaw8_ReplyLimits.j4]
      exact Ev.if_neg (by simp) h
    cases bad with
    | true =>
      have hr : renderU (if true = true then 204 else 200) (List.replicate m abP) (U z) false false = ([], some 1) := by
        unfold renderU; rw [if_neg (by omega)]; rfl
      rw [hr] at hR
      refine hR.bind (hgo _ _ _ ?_)
      exact Ev.if_pos rfl (Ev.if_pos (by rw [toList_U, U_mk]) (Ev.now _))
    | false =>
      have hv : Valid (200, [79, 75]) (List.replicate m abP) (U z).length := ⟨by decide, by omega, rep_may m, by omega⟩
      have hr : renderU (if false = true then 204 else 200) (List.replicate m abP) (U z) false false = (textU (200, [79, 75]) (List.replicate m abP) (U z) false false, none) := renderU_valid hv false false
      rw [hr] at hR
      refine hR.bind (hgo _ _ _ ?_)
      refine Ev.if_neg (by simp) ?_
      have hl := textU_len (p := (200, [79, 75])) (by decide) hv false false
      rw [rep_bulk] at hl
      have hms := mk_size (textU (200, [79, 75]) (List.replicate m abP) (U z) false false)
      have hRd := reply_Read.ev (mk (textU (200, [79, 75]) (List.replicate m abP) (U z) false false)) (by omega)
      have hbk := readU_back hv false []
      rw [List.append_nil, List.map_replicate, mk_U] at hbk
      rw [U_mk, hbk] at hRd
      refine hRd.bind ?_
      refine Ev.bind (SameReply_self 200 (List.replicate m (unP abP)) z false (by omega)) ?_
      exact Ev.if_pos rfl (Ev.if_pos rfl (Ev.if_pos (by rw [hms]) (Ev.now _)))
theorem limits.ev1 (a b : Int) (bad : Bool) (m : Nat) (hm : m ≤ 65) (n : Nat) (hn : n ≤ 1048577) :
    Ev (fun k => usherlaw8_ReplyLimits.j1 k (n : Int) a b bad 200 (List.replicate m (unP abP)) (⟨#[]⟩ : ByteArray) false) true := by
  have H : ∀ (d i : Nat), i + d = n → Ev (fun k => usherlaw8_ReplyLimits.l1 k (n : Int) (List.replicate i 120) (i : Int) a b bad 200 (List.replicate m (unP abP)) (⟨#[]⟩ : ByteArray) false) true := by
    intro d
    induction d with
    | zero =>
      intro i hi
      have hz : (strOfNums (List.replicate i (120 : Int))).size ≤ 1048577 := by
        rw [size_eq, bytesOf_strOfNums (fun x hx => by rw [(List.mem_replicate.1 hx).2]; omega), List.length_replicate]; omega
      have h3 := limits.ev4 a b bad m hm _ hz
      refine Ev.step (fun k => rfl) ?_
      simp only [usherlaw8_ReplyLimits.l1]
      refine Ev.if_neg (by omega) ?_
      cases bad with
      | true => exact Ev.if_pos rfl h3
      | false => exact Ev.if_neg (by simp) h3
    | succ d ih =>
      intro i hi
      refine Ev.step (fun k => rfl) ?_
      simp only [usherlaw8_ReplyLimits.l1]
      refine Ev.if_pos (by omega) (Ev.if_pos (by rw [List.length_replicate]; omega) ?_)
      rw [wrap64_of (by omega), show (i : Int) + 1 = ((i + 1 : Nat) : Int) by omega, ← List.replicate_succ']
      exact ih (i + 1) (by omega)
  refine Ev.step (fun k => rfl) ?_
  simp only [usherlaw8_ReplyLimits.j1]
  exact H n 0 (by omega)
theorem ReplyLimits_pure (a b : Int) (bad : Bool) (_ : (Lit.int .i64 a).wf = true) (_ : (Lit.int .i64 b).wf = true) : ∃ k, usherlaw8_ReplyLimits.f k a b bad = some true := by
  refine Ev.rounds (g := fun k => usherlaw8_ReplyLimits.f k a b bad) ?_
  obtain ⟨t, ht, htl⟩ := Pick_some a 3 (by omega) (by omega)
  obtain ⟨u, hu, hul⟩ := Pick_some b 24 (by omega) (by omega)
  have H : ∀ (d i : Nat), i + d = 63 + t → Ev (fun k => usherlaw8_ReplyLimits.l0 k (i : Int) a b bad 200 (List.replicate i (unP abP)) (⟨#[]⟩ : ByteArray) false) true := by
    intro d
    induction d with
    | zero =>
      intro i hi
      refine Ev.step (fun k => rfl) ?_
      simp only [usherlaw8_ReplyLimits.l0]
      refine (Ev.at_ (fun _ => ht) : Ev (fun _ => usherkit_Pick.f a 3) (t : Int)).bind ?_
      rw [wrap64_of (x := 63 + (t : Int)) (by omega)]
      refine Ev.if_neg (by omega) ?_
      refine (Ev.at_ (fun _ => hu) : Ev (fun _ => usherkit_Pick.f b 24) (u : Int)).bind ?_
      by_cases h3 : (u : Int) < 3
      · refine Ev.if_pos h3 ?_
        rw [wrap64_of (x := (u : Int) + 1048576) (by omega), wrap64_of (by omega), show (u : Int) + 1048576 - 1 = ((u + 1048575 : Nat) : Int) by omega]
        exact limits.ev1 a b bad i (by omega) _ (by omega)
      · exact Ev.if_neg h3 (limits.ev1 a b bad i (by omega) u (by omega))
    | succ d ih =>
      intro i hi
      refine Ev.step (fun k => rfl) ?_
      simp only [usherlaw8_ReplyLimits.l0]
      refine (Ev.at_ (fun _ => ht) : Ev (fun _ => usherkit_Pick.f a 3) (t : Int)).bind ?_
      rw [wrap64_of (x := 63 + (t : Int)) (by omega)]
      refine Ev.if_pos (by omega) (Ev.if_pos (by rw [List.length_replicate]; omega) ?_)
      rw [wrap64_of (by omega), show (i : Int) + 1 = ((i + 1 : Nat) : Int) by omega]
      have e : List.replicate i (unP abP) ++ [(⟨(⟨#[97]⟩ : ByteArray), (⟨#[98]⟩ : ByteArray)⟩ : S26)] = List.replicate (i + 1) (unP abP) := by rw [List.replicate_succ']; rfl
      rw [e]
      exact ih (i + 1) (by omega)
  simp only [usherlaw8_ReplyLimits.f]
  exact H (63 + t) 0 (by omega)
end Go.Proofs.YtdlfdmbaejhaaaaDoor.Q
