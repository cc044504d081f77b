/- The call of field.CookieText answers the text of the cookies. Conditions: the text has at most 140737488355328 bytes. -/
import Derived.Test.YtdlfdmbaejhaaaaDoorBuild
import Derived.Test.YtdlfdmbaejhaaaaDoorQ1
import Derived.Test.YtdlfdmbaejhaaaaDoorTool
import Derived.Lib.Hide
import Derived.Outline
set_option linter.unusedVariables false
set_option linter.unusedSimpArgs false
namespace Go.Proofs.YtdlfdmbaejhaaaaDoor.Q
open Go.RowKit Go.Proofs.YtdlfdmbaejhaaaaDoorW.PrintWords Go.Proofs.YtdlfdmbaejhaaaaDoorW.PrintLast Go.Proofs.YtdlfdmbaejhaaaaDoorW.PrintMore
def pieceL (p : S26) : List Int := bytesOf ((p.f0 ++ (⟨#[61]⟩ : ByteArray)) ++ p.f1)
def textTo (l : List S26) (i : Nat) : List Int := (List.range i).flatMap fun j => (if 0 < j then [59, 32] else []) ++ pieceL (l.getD j z26)
theorem textTo_succ (l : List S26) (i : Nat) : textTo l (i + 1) = textTo l i ++ ((if 0 < i then [59, 32] else []) ++ pieceL (l.getD i z26)) := by
  unfold textTo; rw [List.range_succ, List.flatMap_append]; simp
theorem textTo_le (l : List S26) {i j : Nat} (h : i ≤ j) : (textTo l i).length ≤ (textTo l j).length := by
  induction j with
  | zero => obtain rfl : i = 0 := by omega
            exact Nat.le_refl _
  | succ j ih =>
    by_cases e : i = j + 1
    · rw [e]; exact Nat.le_refl _
    · rw [textTo_succ]; have := ih (by omega); simp only [List.length_append]; omega
theorem textTo_range (l : List S26) (i : Nat) : ∀ x ∈ textTo l i, 0 ≤ x ∧ x ≤ 255 := by
  intro x hx
  unfold textTo at hx
  obtain ⟨j, _, hj⟩ := List.mem_flatMap.1 hx
  rcases List.mem_append.1 hj with h | h
  · split at h
    · simp at h; omega
    · cases h
  · exact bytesOf_range h
/-- What may answers of each pair. -/
def maysF (k : Nat) (l : List S26) : Option (List Bool) := l.mapM fun p => field_may.f k p.f0 p.f1
theorem mapM_mono {α β : Type} {f g : α → Option β} (h : ∀ a, LeO (f a) (g a)) : ∀ l : List α, LeO (l.mapM f) (l.mapM g)
  | [] => LeO.refl _
  | a :: l => by
    rw [List.mapM_cons, List.mapM_cons]
    exact LeO.bind (h a) (fun b => LeO.bind (mapM_mono h l) (fun bs => LeO.refl _))
/-- What field.CookieText answers. -/
def field_CookieText.f (k : Nat) (l0 : List S26) : Option (ByteArray × Option Int) :=
  if 16 < l0.length then some ((⟨#[]⟩ : ByteArray), some 3)
  else if (textTo l0 l0.length).length ≤ 140737488355328 then
    (maysF k l0).bind fun ts => if ts.all id = true then some (strOfNums (textTo l0 l0.length), none) else some ((⟨#[]⟩ : ByteArray), some 2)
  else none
theorem field_CookieText.mono : ∀ a0 k, LeO (field_CookieText.f k a0) (field_CookieText.f (k + 1) a0) := by
  intro a0 k
  unfold field_CookieText.f
  refine LeO.ite (LeO.refl _) (LeO.ite (LeO.bind (mapM_mono (fun p => field_may.mono _ _ _) _) (fun _ => LeO.refl _)) (LeO.refl _))
theorem maysF_at {k : Nat} {l : List S26} {ts : List Bool} (h : maysF k l = some ts) (i : Nat) (hi : i < l.length) : ∃ t, ts[i]? = some t ∧ field_may.f k (l.getD i z26).f0 (l.getD i z26).f1 = some t := by
  have := Lib.mapM_at h i (l.getD i z26) (by rw [List.getD_eq_getElem?_getD, List.getElem?_eq_getElem hi]; rfl)
  exact this

set_option maxHeartbeats 8000000 in
set_option maxRecDepth 100000 in
theorem field_CookieText.calls [Sent] (k : Nat) (A0 : Option Addr) (c0 : Nat) (l0 : List S26) (r1 : ByteArray) (r2 : Option Int) (w : World) (hr0 : Kd.C k26 w A0 l0.length l0) (hc0 : l0.length ≤ c0) (h : field_CookieText.f k l0 = some (r1, r2)) (hG : Glob [1, 0, 16] w) :
    Calls Tryd.prog 23 #[.slice A0 l0.length c0] w fun e w' => e = .returned (.tuple #[.string r1, errW r2]) ∧ Below w.heap.size w w' := by
  have hu := Tryd.underlying26
  unfold field_CookieText.f at h
  by_cases h16 : 16 < l0.length
  · rw [if_pos h16] at h
    injection h with h
    injection h with h1 h2
    subst h1; subst h2
    have g3 := hG.err3 (by decide)
    go_enter Tryd.func23, Tryd.ntmps23
    go_wp2
    repeat (go_quiet (fail); try go_wp2)
    go_ret2
    exact ⟨rfl, by repeat (first | exact Below.refl _ _ | apply pw_below_drewN | apply below_drew)⟩
  · rw [if_neg h16] at h
    by_cases hlen : (textTo l0 l0.length).length ≤ 140737488355328
    · rw [if_pos hlen] at h
      obtain ⟨ts, hts, h⟩ := Option.bind_eq_some_iff.mp h
      have Hts := Aside0.mk hts
      have H := Aside0.mk h
      have HL := Aside0.mk hlen
      have HR := Aside0.mk hr0
      have HG := Aside0.mk hG
      clear hts h hlen hr0 hG
      go_enter Tryd.func23, Tryd.ntmps23
      go_wp2
      go_loopw [13] (fun i wr => ∃ j : Nat, j ≤ l0.length ∧ i = .int .i64 j ∧ Aside0 (Bld w.heap.size (textTo l0 j) wr) ∧ Aside0 (Below w.heap.size w wr) ∧ Aside0 (∀ q : Nat, q < j → ts[q]? = some true)) (fun i _ => l0.length - (intOf i).toNat)
      case atStart => exact ⟨0, by omega, rfl, ⟨Bld.new w⟩, ⟨below_alloc (Below.refl _ _) _⟩, ⟨fun q hq => absurd hq (by omega)⟩⟩
      case round =>
        obtain ⟨j, hj, rfl, HB, HW, HT⟩ := hrel
        by_cases hlt : j < l0.length
        · obtain ⟨t, ht, hm⟩ := maysF_at Hts.out j hlt
          obtain ⟨ad, ea, x0, x1⟩ := at_T26 HR.out (j : Int) (by omega) (by omega)
          subst ea
          have er : rd_T26 l0 (j : Int) = l0.getD j z26 := by unfold rd_T26; simp
          rw [er] at x0 x1
          have hsucc := textTo_succ l0 j
          generalize l0.getD j z26 = pr at *
          obtain ⟨nm, vl⟩ := pr
          dsimp only at x0 x1 hm
          have y0 := pw_cell_below HW.out x0
          have y1 := pw_cell_below HW.out x1
          have ej : ((j : Int)).toNat = j := by omega
          rw [ej] at y0 y1
          have HM := Aside0.mk hm
          have HS := Aside0.mk hsucc
          clear x0 x1 er hm hsucc ej
          have q4 : (j : Int) < (l0.length : Int) := by omega
          have HGr := Aside0.mk (HG.out.step HW.out rfl : Glob [1, 0, 16] wr)
          have ge : wr.cell? ⟨1, 0, none⟩ = some (.iface 143 (.pointer (some (Sent.addr 2)))) := HGr.out.err2 (by decide)
          have ge2 : (wr.alloc (.cells #[.string nm, .string vl] 26)).cell? ⟨1, 0, none⟩ = some (.iface 143 (.pointer (some (Sent.addr 2)))) := pw_cell_below (below_alloc (Below.refl _ _) _) ge
          have hlen1 : (textTo l0 (j + 1)).length ≤ 140737488355328 := Nat.le_trans (textTo_le l0 hlt) HL.out
          have hpl : (pieceL (⟨nm, vl⟩ : S26)).length = nm.size + 1 + vl.size := by
            unfold pieceL; rw [bytesOf_length, ByteArray.size_append, ByteArray.size_append]; rfl
          have hl2 := congrArg List.length HS.out
          rw [List.length_append, List.length_append, hpl] at hl2
          have hz1 : nm.size + 1 ≤ 9223372036854775807 := by omega
          have hz2 : (nm ++ (⟨#[61]⟩ : ByteArray)).size + vl.size ≤ 9223372036854775807 := by rw [ByteArray.size_append]; show nm.size + 1 + vl.size ≤ _; omega
          have hz3 : nm.size + 1 + vl.size ≤ 9223372036854775807 := by omega
          cases t with
          | false =>
            go_wp2_with (first | (go_at_call 46; refine (field_may.calls k _ _ false _ HM.out (HGr.out.step (below_alloc (Below.refl _ _) _) rfl)).mono ?_; rintro e w' ⟨rfl, ⟨m, rfl⟩⟩))
            repeat (go_quiet (fail); try go_wp2)
            go_ret2
            have hall : ¬ (ts.all id = true) := fun hh => by
              have := List.all_eq_true.1 hh false (List.mem_of_getElem? ht)
              exact absurd this (by decide)
            have h2 := H.out
            rw [if_neg hall] at h2
            injection h2 with h2
            injection h2 with h3 h4
            subst h3; subst h4
            exact ⟨rfl, by repeat (first | apply pw_below_drewN | apply below_drew | exact below_alloc HW.out _)⟩
          | true =>
            have HT2 : Aside0 (∀ q : Nat, q < j + 1 → ts[q]? = some true) := ⟨fun q hq => by
              by_cases e : q = j
              · rw [e]; exact ht
              · exact HT.out q (by omega)⟩
            by_cases hj0 : 0 < j
            · have hj1 : decide ((0 : Int) < (j : Int)) = true := by simp; omega
              rw [if_pos hj0] at hl2
              go_wp2_with (first | (go_at_call 46; refine (field_may.calls k _ _ true _ HM.out (HGr.out.step (below_alloc (Below.refl _ _) _) rfl)).mono ?_; rintro e w' ⟨rfl, ⟨m, rfl⟩⟩))
              refine (bld_WriteString w.heap.size (textTo l0 j) (⟨#[59, 32]⟩ : ByteArray) _ ((HB.out.below (below_alloc (Below.refl _ _) _)).drewN m) ?len).mono ?_
              case len => show (textTo l0 j).length + 2 ≤ _; simp only [List.length_cons, List.length_nil] at hl2; omega
              rintro e w5 ⟨rfl, hb5, hB5, hk5⟩
              have HB5 := Aside0.mk hb5
              have HW5 := Aside0.mk ((pw_below_drewN (below_alloc HW.out _) m).trans hB5)
              have hbk := (hk5 wr.heap.size (by simp) (by have := HB.out.lt; omega) (by intro cs fr hh; have h3 := (blk_new wr _).symm.trans hh; injection h3 with h3; injection h3 with _ h3 _; exact absurd h3 (by decide))).trans (blk_new wr _)
              have z0 : w5.cell? ⟨wr.heap.size, 0, none⟩ = some (.string nm) := by rw [Lib.cell_of_heap hbk]; rfl
              have z1 : w5.cell? ⟨wr.heap.size, 1, none⟩ = some (.string vl) := by rw [Lib.cell_of_heap hbk]; rfl
              clear hb5 hB5 hk5 hbk
              dsimp only
              go_wp2_with (fail)
              refine (bld_WriteString w.heap.size (textTo l0 j ++ bytesOf (⟨#[59, 32]⟩ : ByteArray)) ((nm ++ (⟨#[61]⟩ : ByteArray)) ++ vl) _ HB5.out ?len).mono ?_
              case len =>
                rw [List.length_append, bytesOf_length, ByteArray.size_append, ByteArray.size_append]
                show (textTo l0 j).length + 2 + (nm.size + 1 + vl.size) ≤ _
                simp only [List.length_cons, List.length_nil] at hl2; omega
              rintro e w6 ⟨rfl, hb6, hB6, hk6⟩
              have e6 : (textTo l0 j ++ bytesOf (⟨#[59, 32]⟩ : ByteArray)) ++ bytesOf ((nm ++ (⟨#[61]⟩ : ByteArray)) ++ vl) = textTo l0 (j + 1) := by
                rw [HS.out, if_pos hj0, List.append_assoc]; rfl
              rw [e6] at hb6
              have HB6 := Aside0.mk hb6
              have HW6 := Aside0.mk (HW5.out.trans hB6)
              clear hb6 hB6 hk6 e6
              dsimp only
              go_wp2
              go_roundw
              case measure => simp only [intOf, Array.getD_eq_getD_getElem?]; omega
              case rel => exact ⟨j + 1, by omega, by first | rfl | (simp; done), HB6, HW6, HT2⟩
            · have hj1 : decide ((0 : Int) < (j : Int)) = false := by simp; omega
              rw [if_neg hj0] at hl2
              go_wp2_with (first | (go_at_call 46; refine (field_may.calls k _ _ true _ HM.out (HGr.out.step (below_alloc (Below.refl _ _) _) rfl)).mono ?_; rintro e w' ⟨rfl, ⟨m, rfl⟩⟩))
              refine (bld_WriteString w.heap.size (textTo l0 j) ((nm ++ (⟨#[61]⟩ : ByteArray)) ++ vl) _ ((HB.out.below (below_alloc (Below.refl _ _) _)).drewN _) ?len).mono ?_
              case len =>
                rw [ByteArray.size_append, ByteArray.size_append]
                show (textTo l0 j).length + (nm.size + 1 + vl.size) ≤ _
                simp only [List.length_cons, List.length_nil] at hl2; omega
              rintro e w6 ⟨rfl, hb6, hB6, hk6⟩
              have e6 : textTo l0 j ++ bytesOf ((nm ++ (⟨#[61]⟩ : ByteArray)) ++ vl) = textTo l0 (j + 1) := by
                rw [HS.out, if_neg hj0]; rfl
              rw [e6] at hb6
              have HB6 := Aside0.mk hb6
              have HW6 := Aside0.mk ((pw_below_drewN (below_alloc HW.out _) _).trans hB6)
              clear hb6 hB6 hk6 e6
              dsimp only
              go_wp2
              go_roundw
              case measure => simp only [intOf, Array.getD_eq_getD_getElem?]; omega
              case rel => exact ⟨j + 1, by omega, by first | rfl | (simp; done), HB6, HW6, HT2⟩
        · have hje : j = l0.length := by omega
          subst hje
          have hall : ts.all id = true := by
            rw [List.all_eq_true]
            intro b hb
            obtain ⟨q, hq, e⟩ := List.getElem_of_mem hb
            have hlen2 : ts.length = l0.length := Lib.mapM_length Hts.out
            have h5 := HT.out q (by omega)
            rw [List.getElem?_eq_getElem hq, e] at h5
            injection h5
          have h2 := H.out
          rw [if_pos hall] at h2
          injection h2 with h2
          injection h2 with h3 h4
          subst h3; subst h4
          go_wp2_with (first | (go_at_call 41; refine (bld_String w.heap.size (textTo l0 l0.length) _ HB.out (textTo_range _ _)).mono ?_; rintro e w6 ⟨rfl, hB6⟩))
          go_ret2
          exact ⟨rfl, HW.out.trans hB6⟩
    · rw [if_neg hlen] at h; cases h
end Go.Proofs.YtdlfdmbaejhaaaaDoor.Q
