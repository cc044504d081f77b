/- The call of usherlaw6.kept answers whether the first list is the second with the two marks behind it. Conditions: the second list has less than 4398046511104 members. -/
import Derived.Test.YtbkhgmmlacdhoaaDoorQ7
import Derived.Test.YtbkhgmmlacdhoaaDoorQ5
import Derived.Test.YtbkhgmmlacdhoaaDoorTool
import Derived.Lib.Hide
import Derived.Outline
import Derived.Deep.RegionHeld3
import Derived.BigQuiet
set_option linter.unusedVariables false
set_option linter.unusedSimpArgs false
namespace Go.Proofs.YtbkhgmmlacdhoaaDoor.Q
open Go.RowKit Go.Proofs.YtbkhgmmlacdhoaaDoorW.PrintWords Go.Proofs.YtbkhgmmlacdhoaaDoorW.PrintLast Go.Proofs.YtbkhgmmlacdhoaaDoorW.PrintMore
attribute [local go_sem high] eqA71

def behT : ByteArray := ⟨#[98, 101, 104, 105, 110, 100]⟩
def isBeh (x : S71) : Bool := x.f0.toList == behT.toList && x.f1.toList == behT.toList
/-- What usherlaw6.kept answers where all is kept; nothing is told otherwise. -/
def usherlaw6_kept.f (k : Nat) (l0 l1 : List (S71)) : Option Bool :=
  if l1.length < 4398046511104 ∧ l0.length = l1.length + 2 ∧ (isBeh (rd_T71 l0 (l1.length : Int)) && isBeh (rd_T71 l0 ((l1.length : Int) + 1))) = true then
    (usherref0_SamePairs.f k (l0.take l1.length) l1).bind fun b => if b = true then some true else none
  else none
theorem usherlaw6_kept.mono : ∀ a0 a1 k, LeO (usherlaw6_kept.f k a0 a1) (usherlaw6_kept.f (k + 1) a0 a1) := by
  intro a0 a1 k
  unfold usherlaw6_kept.f
  exact LeO.ite (LeO.bind (usherref0_SamePairs.mono _ _ _) (fun _ => LeO.refl _)) (LeO.refl _)
theorem isBeh_eq {x : S71} (h : isBeh x = true) : x.f0 = behT ∧ x.f1 = behT := by
  obtain ⟨a, b⟩ := x
  unfold isBeh at h
  rw [Bool.and_eq_true, beq_iff_eq, beq_iff_eq] at h
  exact ⟨toList_eq_iff.mp h.1, toList_eq_iff.mp h.2⟩

theorem kept5 {w W W1 : World} {a b c d : Addr} {u v x y : Value} (h : Below W.heap.size W W1) (hs : W.cell? a = some u ∧ W.cell? b = some v ∧ W.cell? c = some x ∧ W.cell? d = some y ∧ Below w.heap.size w W) :
    W1.cell? a = some u ∧ W1.cell? b = some v ∧ W1.cell? c = some x ∧ W1.cell? d = some y ∧ Below w.heap.size w W1 :=
  ⟨pw_cell_below h hs.1, pw_cell_below h hs.2.1, pw_cell_below h hs.2.2.1, pw_cell_below h hs.2.2.2.1, below_step hs.2.2.2.2 h⟩
set_option maxHeartbeats 8000000 in
set_option maxRecDepth 100000 in
theorem usherlaw6_kept.calls (k : Nat) (A0 : Option Addr) (c0 : Nat) (l0 : List (S71)) (A1 : Option Addr) (c1 : Nat) (l1 : List (S71)) (r : Bool) (w : World) (hr0 : Kd.C k71 w A0 l0.length l0) (hc0 : l0.length ≤ c0) (hr1 : Kd.C k71 w A1 l1.length l1) (hc1 : l1.length ≤ c1) (h : usherlaw6_kept.f k l0 l1 = some r) :
    Calls Tryd.prog 26 #[.slice A0 l0.length c0, .slice A1 l1.length c1] w fun e w' => e = .returned (.bool r) ∧ Below w.heap.size w w' := by
  have hu := Tryd.underlying71
  have HB := Aside0.mk (Below.refl w.heap.size w)
  unfold usherlaw6_kept.f at h
  by_cases hb : l1.length < 4398046511104 ∧ l0.length = l1.length + 2 ∧ (isBeh (rd_T71 l0 (l1.length : Int)) && isBeh (rd_T71 l0 ((l1.length : Int) + 1))) = true
  · rw [if_pos hb] at h
    obtain ⟨hb, hl, hi⟩ := hb
    rw [Bool.and_eq_true] at hi
    obtain ⟨b, hs, h⟩ := Option.bind_eq_some_iff.mp h
    cases b with
    | false => cases h
    | true =>
      rw [if_pos rfl] at h
      have hr := Option.some.inj h
      clear h
      subst hr
      have hlt := Kd.C_take (m := l1.length) hr0 (by omega)
      have hlen : (l0.take l1.length).length = l1.length := by rw [List.length_take]; omega
      obtain ⟨i0, hi0, _, hsz, _⟩ := info_parts info71
      have hcut := cut_to (P := Tryd.prog) 26 71 .i64 Tryd.underlying26 hi0 A0 l0.length c0 (l1.length : Int) (by omega) (by omega) (by omega)
      have hcut' : (l1.length : Int).toNat = l1.length := by omega
      rw [hcut'] at hcut
      clear hi0 hcut'
      obtain ⟨ad, ea, g0, g1⟩ := at_T71 hr0 (l1.length : Int) (by omega) (by omega)
      obtain ⟨ad', ea', g2, g3⟩ := at_T71 hr0 ((l1.length : Int) + 1) (by omega) (by omega)
      subst ea
      cases ea'
      rw [(isBeh_eq hi.1).1] at g0
      rw [(isBeh_eq hi.1).2] at g1
      rw [(isBeh_eq hi.2).1] at g2
      rw [(isBeh_eq hi.2).2] at g3
      unfold behT at g0 g1 g2 g3
      have e0 : (((l1.length : Int) : Int).toNat) = l1.length := by omega
      have e1 : (((l1.length : Int) + 1).toNat) = l1.length + 1 := by omega
      rw [e0] at g0 g1
      rw [e1] at g2 g3
      have x2 : IntKind.i64.wrap ((l1.length : Int) + 2) = (l1.length : Int) + 2 := IntWalk.i64_in _ (by omega)
      have x1 : IntKind.i64.wrap ((l1.length : Int) + 1) = (l1.length : Int) + 1 := IntWalk.i64_in _ (by omega)
      have s0 : (0 : Int) ≤ (l1.length : Int) := by omega
      have s1 : (l1.length : Int) ≤ (c0 : Int) := by omega
      have q3 : (l1.length : Int) < (l0.length : Int) := by omega
      have q4 : (l1.length : Int) + 1 < (l0.length : Int) := by omega
      have q5 : (0 : Int) ≤ (l1.length : Int) + 1 := by omega
      have q6 : (l1.length : Int) < (l1.length : Int) + 2 := by omega
      have q7 : (l1.length : Int) + 1 < (l1.length : Int) + 2 := by omega
      have q0 : ((l0.length : Int) == (l1.length : Int) + 2) = true := by simp [hl]
      have q1 : ((l1.length : Int) < (l0.length : Int)) = True := by simp [hl]; omega
      have q2 : ((l1.length : Int) + 1 < (l0.length : Int)) = True := by simp [hl]
      have HR0 := Aside0.mk hr0
      have HR1 := Aside0.mk hr1
      have HS := Aside0.mk hs
      have HLT := Aside0.mk hlt
      clear hr0 hr1 hs hlt hi
      have CS : ∀ W, Below w.heap.size w W → Calls Tryd.prog 41 #[.slice (some ad) l1.length c0, .slice A1 l1.length c1] W fun e w' => e = .returned (.bool true) ∧ Drawn0 W w' := fun W hW => by
        have := usherref0_SamePairs.calls k (some ad) c0 (l0.take l1.length) A1 c1 l1 true W (Kd.C_below HLT.out hW) (by omega) (Kd.C_below HR1.out hW) hc1 HS.out
        rwa [hlen] at this
      have CB : ∀ W, Calls Tryd.prog 52 #[] W fun e w' => e = .returned (.agg #[.string ⟨#[98, 101, 104, 105, 110, 100]⟩, .string ⟨#[98, 101, 104, 105, 110, 100]⟩]) ∧ Below W.heap.size W w' := fun W => usherlaw6_behind.calls _ _ W rfl
      clear hu
      go_enter Tryd.func26, Tryd.ntmps26
      go_wp2
      have B0 := HB.out
      go_region_held3 (fun w' => w'.cell? (ad.add (l1.length * 2)) = some (.string ⟨#[98, 101, 104, 105, 110, 100]⟩) ∧ w'.cell? ⟨(ad.add (l1.length * 2)).block, (ad.add (l1.length * 2)).off + 1, none⟩ = some (.string ⟨#[98, 101, 104, 105, 110, 100]⟩) ∧ w'.cell? (ad.add ((l1.length + 1) * 2)) = some (.string ⟨#[98, 101, 104, 105, 110, 100]⟩) ∧ w'.cell? ⟨(ad.add ((l1.length + 1) * 2)).block, (ad.add ((l1.length + 1) * 2)).off + 1, none⟩ = some (.string ⟨#[98, 101, 104, 105, 110, 100]⟩) ∧ Below w.heap.size w w') (first | assumption | exact ⟨by assumption, by assumption, by assumption, by assumption, by assumption⟩ | exact kept5 (W := World.drew w) ⟨rfl, rfl, rfl, Nat.le_refl _, fun _ _ => rfl⟩ (by assumption) | exact kept5 (Below.drew (Below.refl _ _)) (by first | assumption | exact ⟨by assumption, by assumption, by assumption, by assumption, by assumption⟩) | exact kept5 (pw_below_drewN (Below.refl _ _)) (by first | assumption | exact ⟨by assumption, by assumption, by assumption, by assumption, by assumption⟩) | exact kept5 (by assumption) (by first | assumption | exact ⟨by assumption, by assumption, by assumption, by assumption, by assumption⟩) | fail)
        (first | (go_at_call 41; refine (CS _ (by exact (by assumption : _ ∧ _ ∧ _ ∧ _ ∧ _).2.2.2.2)).mono ?_; rintro e w' ⟨rfl, ⟨m, rfl⟩⟩) | (go_at_call 52; refine (CB _).mono ?_; rintro e w' ⟨rfl, hbh⟩))
      all_goals (go_wp2; go_ret; exact ⟨rfl, (by assumption : _ ∧ _ ∧ _ ∧ _ ∧ _).2.2.2.2⟩)
  · rw [if_neg hb] at h
    cases h
end Go.Proofs.YtbkhgmmlacdhoaaDoor.Q
