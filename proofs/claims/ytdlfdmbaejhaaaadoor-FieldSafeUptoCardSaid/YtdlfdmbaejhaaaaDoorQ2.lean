/- The plain Lean functions that calls of the program answer, and proofs that they do. Printed by program out of the translation; Lean checks it. -/
import Derived.Test.YtdlfdmbaejhaaaaDoorQ0
import Derived.Test.YtdlfdmbaejhaaaaDoorBld
namespace Go.Proofs.YtdlfdmbaejhaaaaDoor.Q
open Go.RowKit Go.Proofs.YtdlfdmbaejhaaaaDoorW.PrintWords Go.Proofs.YtdlfdmbaejhaaaaDoorW.PrintLast Go.Proofs.YtdlfdmbaejhaaaaDoorW.PrintMore
attribute [local go_sem] max2_int min2_int max_two min_two max_three min_three max_four min_four   -- for this text's walks alone
set_option linter.unusedVariables false
set_option linter.unusedSimpArgs false

/-! ### radix_write: function 71 -/
mutual
def radix_write.l0 : Nat → ByteArray → ByteArray → List Int → Int → Int → Int → Option (ByteArray)
  | 0, _, _, _, _, _, _ => none
  | k + 1, x0, x1, x5, x6, x14, x15 => if x15 < x14 then (if 0 ≤ (wrap64 (3 * x15)) then (if (wrap64 (3 * x15)) < (x1.size : Int) then (if 0 ≤ (wrap64 ((wrap64 (3 * x15)) + 1)) then (if (wrap64 ((wrap64 (3 * x15)) + 1)) < (x1.size : Int) then (if 0 ≤ (wrap64 ((wrap64 (3 * x15)) + 2)) then (if (wrap64 ((wrap64 (3 * x15)) + 2)) < (x1.size : Int) then (if 0 ≤ ((Go.bits .or .u32 (Go.bits .or .u32 ((((bt x1 (wrap64 (3 * x15))) % 4294967296) * 65536) % 4294967296) ((((bt x1 (wrap64 ((wrap64 (3 * x15)) + 1))) % 4294967296) * 256) % 4294967296)) ((bt x1 (wrap64 ((wrap64 (3 * x15)) + 2))) % 4294967296)) / 262144) then (if ((Go.bits .or .u32 (Go.bits .or .u32 ((((bt x1 (wrap64 (3 * x15))) % 4294967296) * 65536) % 4294967296) ((((bt x1 (wrap64 ((wrap64 (3 * x15)) + 1))) % 4294967296) * 256) % 4294967296)) ((bt x1 (wrap64 ((wrap64 (3 * x15)) + 2))) % 4294967296)) / 262144) < (x0.size : Int) then (if x5.length < 140737488355328 then ((some (x5 ++ [bt x0 ((Go.bits .or .u32 (Go.bits .or .u32 ((((bt x1 (wrap64 (3 * x15))) % 4294967296) * 65536) % 4294967296) ((((bt x1 (wrap64 ((wrap64 (3 * x15)) + 1))) % 4294967296) * 256) % 4294967296)) ((bt x1 (wrap64 ((wrap64 (3 * x15)) + 2))) % 4294967296)) / 262144)] : List Int)).bind fun y114 => (if 0 ≤ (Go.bits .and .u32 ((Go.bits .or .u32 (Go.bits .or .u32 ((((bt x1 (wrap64 (3 * x15))) % 4294967296) * 65536) % 4294967296) ((((bt x1 (wrap64 ((wrap64 (3 * x15)) + 1))) % 4294967296) * 256) % 4294967296)) ((bt x1 (wrap64 ((wrap64 (3 * x15)) + 2))) % 4294967296)) / 4096) 63) then (if (Go.bits .and .u32 ((Go.bits .or .u32 (Go.bits .or .u32 ((((bt x1 (wrap64 (3 * x15))) % 4294967296) * 65536) % 4294967296) ((((bt x1 (wrap64 ((wrap64 (3 * x15)) + 1))) % 4294967296) * 256) % 4294967296)) ((bt x1 (wrap64 ((wrap64 (3 * x15)) + 2))) % 4294967296)) / 4096) 63) < (x0.size : Int) then (if y114.length < 140737488355328 then ((some (y114 ++ [bt x0 (Go.bits .and .u32 ((Go.bits .or .u32 (Go.bits .or .u32 ((((bt x1 (wrap64 (3 * x15))) % 4294967296) * 65536) % 4294967296) ((((bt x1 (wrap64 ((wrap64 (3 * x15)) + 1))) % 4294967296) * 256) % 4294967296)) ((bt x1 (wrap64 ((wrap64 (3 * x15)) + 2))) % 4294967296)) / 4096) 63)] : List Int)).bind fun y116 => (if 0 ≤ (Go.bits .and .u32 ((Go.bits .or .u32 (Go.bits .or .u32 ((((bt x1 (wrap64 (3 * x15))) % 4294967296) * 65536) % 4294967296) ((((bt x1 (wrap64 ((wrap64 (3 * x15)) + 1))) % 4294967296) * 256) % 4294967296)) ((bt x1 (wrap64 ((wrap64 (3 * x15)) + 2))) % 4294967296)) / 64) 63) then (if (Go.bits .and .u32 ((Go.bits .or .u32 (Go.bits .or .u32 ((((bt x1 (wrap64 (3 * x15))) % 4294967296) * 65536) % 4294967296) ((((bt x1 (wrap64 ((wrap64 (3 * x15)) + 1))) % 4294967296) * 256) % 4294967296)) ((bt x1 (wrap64 ((wrap64 (3 * x15)) + 2))) % 4294967296)) / 64) 63) < (x0.size : Int) then (if y116.length < 140737488355328 then ((some (y116 ++ [bt x0 (Go.bits .and .u32 ((Go.bits .or .u32 (Go.bits .or .u32 ((((bt x1 (wrap64 (3 * x15))) % 4294967296) * 65536) % 4294967296) ((((bt x1 (wrap64 ((wrap64 (3 * x15)) + 1))) % 4294967296) * 256) % 4294967296)) ((bt x1 (wrap64 ((wrap64 (3 * x15)) + 2))) % 4294967296)) / 64) 63)] : List Int)).bind fun y118 => (if 0 ≤ (Go.bits .and .u32 (Go.bits .or .u32 (Go.bits .or .u32 ((((bt x1 (wrap64 (3 * x15))) % 4294967296) * 65536) % 4294967296) ((((bt x1 (wrap64 ((wrap64 (3 * x15)) + 1))) % 4294967296) * 256) % 4294967296)) ((bt x1 (wrap64 ((wrap64 (3 * x15)) + 2))) % 4294967296)) 63) then (if (Go.bits .and .u32 (Go.bits .or .u32 (Go.bits .or .u32 ((((bt x1 (wrap64 (3 * x15))) % 4294967296) * 65536) % 4294967296) ((((bt x1 (wrap64 ((wrap64 (3 * x15)) + 1))) % 4294967296) * 256) % 4294967296)) ((bt x1 (wrap64 ((wrap64 (3 * x15)) + 2))) % 4294967296)) 63) < (x0.size : Int) then (if y118.length < 140737488355328 then (radix_write.l0 k x0 x1 (y118 ++ [bt x0 (Go.bits .and .u32 (Go.bits .or .u32 (Go.bits .or .u32 ((((bt x1 (wrap64 (3 * x15))) % 4294967296) * 65536) % 4294967296) ((((bt x1 (wrap64 ((wrap64 (3 * x15)) + 1))) % 4294967296) * 256) % 4294967296)) ((bt x1 (wrap64 ((wrap64 (3 * x15)) + 2))) % 4294967296)) 63)]) x6 x14 (wrap64 (x15 + 1))) else (none)) else (none)) else (none))) else (none)) else (none)) else (none))) else (none)) else (none)) else (none))) else (none)) else (none)) else (none)) else (none)) else (none)) else (none)) else (none)) else (none)) else (none)) else (if 0 ≤ (wrap64 (3 * x6)) then (if (wrap64 (3 * x6)) ≤ (x1.size : Int) then (radix_write.j1 k x0 x5 (x1.extract ((wrap64 (3 * x6)) : Int).toNat x1.size)) else (none)) else (none))
def radix_write.j1 : Nat → ByteArray → List Int → ByteArray → Option (ByteArray)
  | 0, _, _, _ => none
  | k + 1, x0, x5, x9 => if (x9.size : Int) = 2 then (if 1 < (x9.size : Int) then (if 0 < (x9.size : Int) then (if 0 ≤ ((Go.bits .or .u32 ((((bt x9 1) % 4294967296) * 256) % 4294967296) ((((bt x9 0) % 4294967296) * 65536) % 4294967296)) / 262144) then (if ((Go.bits .or .u32 ((((bt x9 1) % 4294967296) * 256) % 4294967296) ((((bt x9 0) % 4294967296) * 65536) % 4294967296)) / 262144) < (x0.size : Int) then (if x5.length < 140737488355328 then ((some (x5 ++ [bt x0 ((Go.bits .or .u32 ((((bt x9 1) % 4294967296) * 256) % 4294967296) ((((bt x9 0) % 4294967296) * 65536) % 4294967296)) / 262144)] : List Int)).bind fun y122 => (if 0 ≤ (Go.bits .and .u32 ((Go.bits .or .u32 ((((bt x9 1) % 4294967296) * 256) % 4294967296) ((((bt x9 0) % 4294967296) * 65536) % 4294967296)) / 4096) 63) then (if (Go.bits .and .u32 ((Go.bits .or .u32 ((((bt x9 1) % 4294967296) * 256) % 4294967296) ((((bt x9 0) % 4294967296) * 65536) % 4294967296)) / 4096) 63) < (x0.size : Int) then (if y122.length < 140737488355328 then (radix_write.j2 k x0 (y122 ++ [bt x0 (Go.bits .and .u32 ((Go.bits .or .u32 ((((bt x9 1) % 4294967296) * 256) % 4294967296) ((((bt x9 0) % 4294967296) * 65536) % 4294967296)) / 4096) 63)]) x9 (Go.bits .or .u32 ((((bt x9 1) % 4294967296) * 256) % 4294967296) ((((bt x9 0) % 4294967296) * 65536) % 4294967296))) else (none)) else (none)) else (none))) else (none)) else (none)) else (none)) else (none)) else (none)) else (if (x9.size : Int) = 1 then (if 0 < (x9.size : Int) then (if 0 ≤ ((Go.bits .or .u32 0 ((((bt x9 0) % 4294967296) * 65536) % 4294967296)) / 262144) then (if ((Go.bits .or .u32 0 ((((bt x9 0) % 4294967296) * 65536) % 4294967296)) / 262144) < (x0.size : Int) then (if x5.length < 140737488355328 then ((some (x5 ++ [bt x0 ((Go.bits .or .u32 0 ((((bt x9 0) % 4294967296) * 65536) % 4294967296)) / 262144)] : List Int)).bind fun y126 => (if 0 ≤ (Go.bits .and .u32 ((Go.bits .or .u32 0 ((((bt x9 0) % 4294967296) * 65536) % 4294967296)) / 4096) 63) then (if (Go.bits .and .u32 ((Go.bits .or .u32 0 ((((bt x9 0) % 4294967296) * 65536) % 4294967296)) / 4096) 63) < (x0.size : Int) then (if y126.length < 140737488355328 then (radix_write.j2 k x0 (y126 ++ [bt x0 (Go.bits .and .u32 ((Go.bits .or .u32 0 ((((bt x9 0) % 4294967296) * 65536) % 4294967296)) / 4096) 63)]) x9 (Go.bits .or .u32 0 ((((bt x9 0) % 4294967296) * 65536) % 4294967296))) else (none)) else (none)) else (none))) else (none)) else (none)) else (none)) else (none)) else (radix_write.j2 k x0 x5 x9 0))
def radix_write.j2 : Nat → ByteArray → List Int → ByteArray → Int → Option (ByteArray)
  | 0, _, _, _, _ => none
  | k + 1, x0, x5, x9, x10 => if (x9.size : Int) = 2 then (if 0 ≤ (Go.bits .and .u32 (x10 / 64) 63) then (if (Go.bits .and .u32 (x10 / 64) 63) < (x0.size : Int) then (if x5.length < 140737488355328 then (some (strOfNums (x5 ++ [bt x0 (Go.bits .and .u32 (x10 / 64) 63)]))) else (none)) else (none)) else (none)) else (some (strOfNums x5))
end
def radix_write.f (k : Nat) (a0 : ByteArray) (a1 : ByteArray) : Option (ByteArray) := radix_write.l0 k a0 a1 ([] : List Int) (wrap64 ((a1.size : Int) / 3)) (wrap64 ((a1.size : Int) / 3)) 0
theorem radix_write.mono_l : ∀ k, (∀ y0 y1 y2 y3 y4 y5, LeO (radix_write.l0 k y0 y1 y2 y3 y4 y5) (radix_write.l0 (k + 1) y0 y1 y2 y3 y4 y5)) ∧ (∀ y0 y1 y2, LeO (radix_write.j1 k y0 y1 y2) (radix_write.j1 (k + 1) y0 y1 y2)) ∧ (∀ y0 y1 y2 y3, LeO (radix_write.j2 k y0 y1 y2 y3) (radix_write.j2 (k + 1) y0 y1 y2 y3))
  | 0 => ⟨fun _ _ _ _ _ _ r h => by simp [radix_write.l0] at h, fun _ _ _ r h => by simp [radix_write.j1] at h, fun _ _ _ _ r h => by simp [radix_write.j2] at h⟩
  | k + 1 => by
    obtain ⟨ih0, ih1, ih2⟩ := radix_write.mono_l k
    refine ⟨?_, ?_, ?_⟩
    · intro y0 y1 y2 y3 y4 y5
      unfold radix_write.l0
      repeat' first
      | (with_reducible exact ih0 _ _ _ _ _ _)
      | (with_reducible exact ih1 _ _ _)
      | (with_reducible exact ih2 _ _ _ _)
      | (with_reducible exact LeO.refl _)
      | (with_reducible exact LeO.none _)
      | (with_reducible refine LeO.ite ?_ ?_)
      | (with_reducible refine LeO.bind ?_ (fun _ => ?_))
      | exact ih0 _ _ _ _ _ _
      | exact ih1 _ _ _
      | exact ih2 _ _ _ _
      | exact LeO.none _
      | refine LeO.ite ?_ ?_
      | refine LeO.bind ?_ (fun _ => ?_)
    · intro y0 y1 y2
      unfold radix_write.j1
      repeat' first
      | (with_reducible exact ih0 _ _ _ _ _ _)
      | (with_reducible exact ih1 _ _ _)
      | (with_reducible exact ih2 _ _ _ _)
      | (with_reducible exact LeO.refl _)
      | (with_reducible exact LeO.none _)
      | (with_reducible refine LeO.ite ?_ ?_)
      | (with_reducible refine LeO.bind ?_ (fun _ => ?_))
      | exact ih0 _ _ _ _ _ _
      | exact ih1 _ _ _
      | exact ih2 _ _ _ _
      | exact LeO.none _
      | refine LeO.ite ?_ ?_
      | refine LeO.bind ?_ (fun _ => ?_)
    · intro y0 y1 y2 y3
      unfold radix_write.j2
      repeat' first
      | (with_reducible exact ih0 _ _ _ _ _ _)
      | (with_reducible exact ih1 _ _ _)
      | (with_reducible exact ih2 _ _ _ _)
      | (with_reducible exact LeO.refl _)
      | (with_reducible exact LeO.none _)
      | (with_reducible refine LeO.ite ?_ ?_)
      | (with_reducible refine LeO.bind ?_ (fun _ => ?_))
      | exact ih0 _ _ _ _ _ _
      | exact ih1 _ _ _
      | exact ih2 _ _ _ _
      | exact LeO.none _
      | refine LeO.ite ?_ ?_
      | refine LeO.bind ?_ (fun _ => ?_)
theorem radix_write.mono : ∀ a0 a1 k, LeO (radix_write.f k a0 a1) (radix_write.f (k + 1) a0 a1) := by
  intro a0 a1 k
  obtain ⟨ih0, ih1, ih2⟩ := radix_write.mono_l k
  unfold radix_write.f
  repeat' first
      | (with_reducible exact ih0 _ _ _ _ _ _)
      | (with_reducible exact ih1 _ _ _)
      | (with_reducible exact ih2 _ _ _ _)
      | (with_reducible exact LeO.refl _)
      | (with_reducible exact LeO.none _)
      | (with_reducible refine LeO.ite ?_ ?_)
      | (with_reducible refine LeO.bind ?_ (fun _ => ?_))
      | exact ih0 _ _ _ _ _ _
      | exact ih1 _ _ _
      | exact ih2 _ _ _ _
      | exact LeO.none _
      | refine LeO.ite ?_ ?_
      | refine LeO.bind ?_ (fun _ => ?_)
set_option maxHeartbeats 8000000 in
set_option maxRecDepth 100000 in
theorem radix_write.calls (k : Nat) (a0 : ByteArray) (a1 : ByteArray) (r : ByteArray) (w : World) (h : radix_write.f k a0 a1 = some r) :
    Calls Tryd.prog 71 #[.string a0, .string a1] w fun e w' => e = .returned (.string r) ∧ Below w.heap.size w w' := by
  have HB := Aside0.mk (Below.refl w.heap.size w)
  have H : (radix_write.l0 k a0 a1 ([] : List Int) (wrap64 ((a1.size : Int) / 3)) (wrap64 ((a1.size : Int) / 3)) 0) = some r := h
  clear h
  have H' := Aside0.mk H
  clear H
  go_enter Tryd.func71, Tryd.ntmps71
  go_wp2_with (first | ((with_reducible refine gate_dst (N := 5) rfl ?_); refine box_event ?hg (N := 5) ?hd (cs := #[.pointer none, .slice none 0 0]) (t := 72) ?hr ?_; (case hd => rfl); (case hg => rfl); (case hr => first | (go_simp; done) | (go_simp; rfl)); intro gb112 hg w3 hbox hb; have n0_ := Aside0.mk (below_step (by repeat (first | (with_reducible first | exact HB.out | apply below_alloc | apply pw_below_drewN | apply below_drew1) | exact HB.out)) hb); have n1_ := Aside0.mk ((Kd.B_new (d := Kd.int .u8) (e := 72) (base := w.heap.size) hg hbox ((below_size (by repeat (first | (with_reducible first | exact HB.out | apply below_alloc | apply pw_below_drewN | apply below_drew1) | exact HB.out)))))); clear HB; have HB := n0_; have HO113 := n1_; clear n0_ n1_; clear hg hbox hb))
  repeat (go_quiet (first | ((with_reducible refine gate_dst (N := 5) rfl ?_); refine box_event ?hg (N := 5) ?hd (cs := #[.pointer none, .slice none 0 0]) (t := 72) ?hr ?_; (case hd => rfl); (case hg => rfl); (case hr => first | (go_simp; done) | (go_simp; rfl)); intro gb112 hg w3 hbox hb; have n0_ := Aside0.mk (below_step (by repeat (first | (with_reducible first | exact HB.out | apply below_alloc | apply pw_below_drewN | apply below_drew1) | exact HB.out)) hb); have n1_ := Aside0.mk ((Kd.B_new (d := Kd.int .u8) (e := 72) (base := w.heap.size) hg hbox ((below_size (by repeat (first | (with_reducible first | exact HB.out | apply below_alloc | apply pw_below_drewN | apply below_drew1) | exact HB.out)))))); clear HB; have HB := n0_; have HO113 := n1_; clear n0_ n1_; clear hg hbox hb)); try go_wp2_with (first | ((with_reducible refine gate_dst (N := 5) rfl ?_); refine box_event ?hg (N := 5) ?hd (cs := #[.pointer none, .slice none 0 0]) (t := 72) ?hr ?_; (case hd => rfl); (case hg => rfl); (case hr => first | (go_simp; done) | (go_simp; rfl)); intro gb112 hg w3 hbox hb; have n0_ := Aside0.mk (below_step (by repeat (first | (with_reducible first | exact HB.out | apply below_alloc | apply pw_below_drewN | apply below_drew1) | exact HB.out)) hb); have n1_ := Aside0.mk ((Kd.B_new (d := Kd.int .u8) (e := 72) (base := w.heap.size) hg hbox ((below_size (by repeat (first | (with_reducible first | exact HB.out | apply below_alloc | apply pw_below_drewN | apply below_drew1) | exact HB.out)))))); clear HB; have HB := n0_; have HO113 := n1_; clear n0_ n1_; clear hg hbox hb)))
  go_loopg [15] k (fun kq v15 w' => ∃ (x5_1 : List Int) (x15_1 : Int), v15 = .int .i64 x15_1 ∧ Aside0 (radix_write.l0 kq a0 a1 x5_1 (wrap64 ((a1.size : Int) / 3)) (wrap64 ((a1.size : Int) / 3)) x15_1 = some r) ∧ Aside0 (kq ≤ k) ∧ Aside0 (Kd.B (Kd.int .u8) 72 w' w.heap.size (fun _ => True) (.pointer (some ⟨gb112, 0, none⟩)) x5_1) ∧ Aside0 (Below w.heap.size w w'))
  case atStart => exact ⟨(([] : List Int)), (0), (by first | rfl | (simp; done) | (simp [*]; done)), H', ⟨Nat.le_refl _⟩, ⟨by (with_reducible repeat (first | apply Kd.B_alloc | apply Kd.B_drewN | apply Kd.B_drew)); exact HO113.out⟩, ⟨by repeat (first | (with_reducible first | exact HB.out | apply below_alloc | apply pw_below_drewN | apply below_drew1) | exact HB.out)⟩⟩
  case round =>
    clear H'
    try clear p2
    obtain ⟨x5_1, x15_1, rfl, HA, HK1, HO_5, HB⟩ := hrel
    cases gk with
    | zero => exact absurd HA.out (by simp [radix_write.l0])
    | succ k1 =>
      have H := HA.out
      clear HA
      simp only [radix_write.l0] at H
      by_cases c4 : x15_1 < (wrap64 ((a1.size : Int) / 3))
      · rw [if_pos c4] at H
        have c4b0 : decide (x15_1 < (wrap64 ((a1.size : Int) / 3))) = true := decide_eq_true c4
        clear c4
        obtain ⟨ji5, hji5⟩ : ∃ j_ : Int, (wrap64 (3 * x15_1)) = j_ := ⟨_, rfl⟩
        replace H : (if 0 ≤ (ji5) then (if (ji5) < (a1.size : Int) then (if 0 ≤ (wrap64 ((ji5) + 1)) then (if (wrap64 ((ji5) + 1)) < (a1.size : Int) then (if 0 ≤ (wrap64 ((ji5) + 2)) then (if (wrap64 ((ji5) + 2)) < (a1.size : Int) then (if 0 ≤ ((Go.bits .or .u32 (Go.bits .or .u32 ((((bt a1 (ji5)) % 4294967296) * 65536) % 4294967296) ((((bt a1 (wrap64 ((ji5) + 1))) % 4294967296) * 256) % 4294967296)) ((bt a1 (wrap64 ((ji5) + 2))) % 4294967296)) / 262144) then (if ((Go.bits .or .u32 (Go.bits .or .u32 ((((bt a1 (ji5)) % 4294967296) * 65536) % 4294967296) ((((bt a1 (wrap64 ((ji5) + 1))) % 4294967296) * 256) % 4294967296)) ((bt a1 (wrap64 ((ji5) + 2))) % 4294967296)) / 262144) < (a0.size : Int) then (if x5_1.length < 140737488355328 then ((some (x5_1 ++ [bt a0 ((Go.bits .or .u32 (Go.bits .or .u32 ((((bt a1 (ji5)) % 4294967296) * 65536) % 4294967296) ((((bt a1 (wrap64 ((ji5) + 1))) % 4294967296) * 256) % 4294967296)) ((bt a1 (wrap64 ((ji5) + 2))) % 4294967296)) / 262144)] : List Int)).bind fun y114 => (if 0 ≤ (Go.bits .and .u32 ((Go.bits .or .u32 (Go.bits .or .u32 ((((bt a1 (ji5)) % 4294967296) * 65536) % 4294967296) ((((bt a1 (wrap64 ((ji5) + 1))) % 4294967296) * 256) % 4294967296)) ((bt a1 (wrap64 ((ji5) + 2))) % 4294967296)) / 4096) 63) then (if (Go.bits .and .u32 ((Go.bits .or .u32 (Go.bits .or .u32 ((((bt a1 (ji5)) % 4294967296) * 65536) % 4294967296) ((((bt a1 (wrap64 ((ji5) + 1))) % 4294967296) * 256) % 4294967296)) ((bt a1 (wrap64 ((ji5) + 2))) % 4294967296)) / 4096) 63) < (a0.size : Int) then (if y114.length < 140737488355328 then ((some (y114 ++ [bt a0 (Go.bits .and .u32 ((Go.bits .or .u32 (Go.bits .or .u32 ((((bt a1 (ji5)) % 4294967296) * 65536) % 4294967296) ((((bt a1 (wrap64 ((ji5) + 1))) % 4294967296) * 256) % 4294967296)) ((bt a1 (wrap64 ((ji5) + 2))) % 4294967296)) / 4096) 63)] : List Int)).bind fun y116 => (if 0 ≤ (Go.bits .and .u32 ((Go.bits .or .u32 (Go.bits .or .u32 ((((bt a1 (ji5)) % 4294967296) * 65536) % 4294967296) ((((bt a1 (wrap64 ((ji5) + 1))) % 4294967296) * 256) % 4294967296)) ((bt a1 (wrap64 ((ji5) + 2))) % 4294967296)) / 64) 63) then (if (Go.bits .and .u32 ((Go.bits .or .u32 (Go.bits .or .u32 ((((bt a1 (ji5)) % 4294967296) * 65536) % 4294967296) ((((bt a1 (wrap64 ((ji5) + 1))) % 4294967296) * 256) % 4294967296)) ((bt a1 (wrap64 ((ji5) + 2))) % 4294967296)) / 64) 63) < (a0.size : Int) then (if y116.length < 140737488355328 then ((some (y116 ++ [bt a0 (Go.bits .and .u32 ((Go.bits .or .u32 (Go.bits .or .u32 ((((bt a1 (ji5)) % 4294967296) * 65536) % 4294967296) ((((bt a1 (wrap64 ((ji5) + 1))) % 4294967296) * 256) % 4294967296)) ((bt a1 (wrap64 ((ji5) + 2))) % 4294967296)) / 64) 63)] : List Int)).bind fun y118 => (if 0 ≤ (Go.bits .and .u32 (Go.bits .or .u32 (Go.bits .or .u32 ((((bt a1 (ji5)) % 4294967296) * 65536) % 4294967296) ((((bt a1 (wrap64 ((ji5) + 1))) % 4294967296) * 256) % 4294967296)) ((bt a1 (wrap64 ((ji5) + 2))) % 4294967296)) 63) then (if (Go.bits .and .u32 (Go.bits .or .u32 (Go.bits .or .u32 ((((bt a1 (ji5)) % 4294967296) * 65536) % 4294967296) ((((bt a1 (wrap64 ((ji5) + 1))) % 4294967296) * 256) % 4294967296)) ((bt a1 (wrap64 ((ji5) + 2))) % 4294967296)) 63) < (a0.size : Int) then (if y118.length < 140737488355328 then (radix_write.l0 k1 a0 a1 (y118 ++ [bt a0 (Go.bits .and .u32 (Go.bits .or .u32 (Go.bits .or .u32 ((((bt a1 (ji5)) % 4294967296) * 65536) % 4294967296) ((((bt a1 (wrap64 ((ji5) + 1))) % 4294967296) * 256) % 4294967296)) ((bt a1 (wrap64 ((ji5) + 2))) % 4294967296)) 63)]) (wrap64 ((a1.size : Int) / 3)) (wrap64 ((a1.size : Int) / 3)) (wrap64 (x15_1 + 1))) else (none)) else (none)) else (none))) else (none)) else (none)) else (none))) else (none)) else (none)) else (none))) else (none)) else (none)) else (none)) else (none)) else (none)) else (none)) else (none)) else (none)) else (none)) = some r := by first | (rw [hji5] at H; exact H) | (simp only [hji5] at H ⊢; exact H)
        have hji5w : (IntKind.i64.wrap (3 * x15_1)) = ji5 := (i64_w _).trans hji5
        by_cases c6 : 0 ≤ (ji5)
        · rw [if_pos c6] at H
          have c6b0 : decide (0 ≤ (ji5)) = true := decide_eq_true c6
          clear c6
          by_cases c7 : (ji5) < (a1.size : Int)
          · rw [if_pos c7] at H
            have c7b0 : decide ((ji5) < (a1.size : Int)) = true := decide_eq_true c7
            clear c7
            obtain ⟨ji9, hji9⟩ : ∃ j_ : Int, (wrap64 ((ji5) + 1)) = j_ := ⟨_, rfl⟩
            replace H : (if 0 ≤ (ji9) then (if (ji9) < (a1.size : Int) then (if 0 ≤ (wrap64 ((ji5) + 2)) then (if (wrap64 ((ji5) + 2)) < (a1.size : Int) then (if 0 ≤ ((Go.bits .or .u32 (Go.bits .or .u32 ((((bt a1 (ji5)) % 4294967296) * 65536) % 4294967296) ((((bt a1 (ji9)) % 4294967296) * 256) % 4294967296)) ((bt a1 (wrap64 ((ji5) + 2))) % 4294967296)) / 262144) then (if ((Go.bits .or .u32 (Go.bits .or .u32 ((((bt a1 (ji5)) % 4294967296) * 65536) % 4294967296) ((((bt a1 (ji9)) % 4294967296) * 256) % 4294967296)) ((bt a1 (wrap64 ((ji5) + 2))) % 4294967296)) / 262144) < (a0.size : Int) then (if x5_1.length < 140737488355328 then ((some (x5_1 ++ [bt a0 ((Go.bits .or .u32 (Go.bits .or .u32 ((((bt a1 (ji5)) % 4294967296) * 65536) % 4294967296) ((((bt a1 (ji9)) % 4294967296) * 256) % 4294967296)) ((bt a1 (wrap64 ((ji5) + 2))) % 4294967296)) / 262144)] : List Int)).bind fun y114 => (if 0 ≤ (Go.bits .and .u32 ((Go.bits .or .u32 (Go.bits .or .u32 ((((bt a1 (ji5)) % 4294967296) * 65536) % 4294967296) ((((bt a1 (ji9)) % 4294967296) * 256) % 4294967296)) ((bt a1 (wrap64 ((ji5) + 2))) % 4294967296)) / 4096) 63) then (if (Go.bits .and .u32 ((Go.bits .or .u32 (Go.bits .or .u32 ((((bt a1 (ji5)) % 4294967296) * 65536) % 4294967296) ((((bt a1 (ji9)) % 4294967296) * 256) % 4294967296)) ((bt a1 (wrap64 ((ji5) + 2))) % 4294967296)) / 4096) 63) < (a0.size : Int) then (if y114.length < 140737488355328 then ((some (y114 ++ [bt a0 (Go.bits .and .u32 ((Go.bits .or .u32 (Go.bits .or .u32 ((((bt a1 (ji5)) % 4294967296) * 65536) % 4294967296) ((((bt a1 (ji9)) % 4294967296) * 256) % 4294967296)) ((bt a1 (wrap64 ((ji5) + 2))) % 4294967296)) / 4096) 63)] : List Int)).bind fun y116 => (if 0 ≤ (Go.bits .and .u32 ((Go.bits .or .u32 (Go.bits .or .u32 ((((bt a1 (ji5)) % 4294967296) * 65536) % 4294967296) ((((bt a1 (ji9)) % 4294967296) * 256) % 4294967296)) ((bt a1 (wrap64 ((ji5) + 2))) % 4294967296)) / 64) 63) then (if (Go.bits .and .u32 ((Go.bits .or .u32 (Go.bits .or .u32 ((((bt a1 (ji5)) % 4294967296) * 65536) % 4294967296) ((((bt a1 (ji9)) % 4294967296) * 256) % 4294967296)) ((bt a1 (wrap64 ((ji5) + 2))) % 4294967296)) / 64) 63) < (a0.size : Int) then (if y116.length < 140737488355328 then ((some (y116 ++ [bt a0 (Go.bits .and .u32 ((Go.bits .or .u32 (Go.bits .or .u32 ((((bt a1 (ji5)) % 4294967296) * 65536) % 4294967296) ((((bt a1 (ji9)) % 4294967296) * 256) % 4294967296)) ((bt a1 (wrap64 ((ji5) + 2))) % 4294967296)) / 64) 63)] : List Int)).bind fun y118 => (if 0 ≤ (Go.bits .and .u32 (Go.bits .or .u32 (Go.bits .or .u32 ((((bt a1 (ji5)) % 4294967296) * 65536) % 4294967296) ((((bt a1 (ji9)) % 4294967296) * 256) % 4294967296)) ((bt a1 (wrap64 ((ji5) + 2))) % 4294967296)) 63) then (if (Go.bits .and .u32 (Go.bits .or .u32 (Go.bits .or .u32 ((((bt a1 (ji5)) % 4294967296) * 65536) % 4294967296) ((((bt a1 (ji9)) % 4294967296) * 256) % 4294967296)) ((bt a1 (wrap64 ((ji5) + 2))) % 4294967296)) 63) < (a0.size : Int) then (if y118.length < 140737488355328 then (radix_write.l0 k1 a0 a1 (y118 ++ [bt a0 (Go.bits .and .u32 (Go.bits .or .u32 (Go.bits .or .u32 ((((bt a1 (ji5)) % 4294967296) * 65536) % 4294967296) ((((bt a1 (ji9)) % 4294967296) * 256) % 4294967296)) ((bt a1 (wrap64 ((ji5) + 2))) % 4294967296)) 63)]) (wrap64 ((a1.size : Int) / 3)) (wrap64 ((a1.size : Int) / 3)) (wrap64 (x15_1 + 1))) else (none)) else (none)) else (none))) else (none)) else (none)) else (none))) else (none)) else (none)) else (none))) else (none)) else (none)) else (none)) else (none)) else (none)) else (none)) else (none)) = some r := by first | (rw [hji9] at H; exact H) | (simp only [hji9] at H ⊢; exact H)
            have hji9w : (IntKind.i64.wrap ((ji5) + 1)) = ji9 := (i64_w _).trans hji9
            by_cases c10 : 0 ≤ (ji9)
            · rw [if_pos c10] at H
              have c10b0 : decide (0 ≤ (ji9)) = true := decide_eq_true c10
              clear c10
              by_cases c11 : (ji9) < (a1.size : Int)
              · rw [if_pos c11] at H
                have c11b0 : decide ((ji9) < (a1.size : Int)) = true := decide_eq_true c11
                clear c11
                obtain ⟨ji13, hji13⟩ : ∃ j_ : Int, (wrap64 ((ji5) + 2)) = j_ := ⟨_, rfl⟩
                replace H : (if 0 ≤ (ji13) then (if (ji13) < (a1.size : Int) then (if 0 ≤ ((Go.bits .or .u32 (Go.bits .or .u32 ((((bt a1 (ji5)) % 4294967296) * 65536) % 4294967296) ((((bt a1 (ji9)) % 4294967296) * 256) % 4294967296)) ((bt a1 (ji13)) % 4294967296)) / 262144) then (if ((Go.bits .or .u32 (Go.bits .or .u32 ((((bt a1 (ji5)) % 4294967296) * 65536) % 4294967296) ((((bt a1 (ji9)) % 4294967296) * 256) % 4294967296)) ((bt a1 (ji13)) % 4294967296)) / 262144) < (a0.size : Int) then (if x5_1.length < 140737488355328 then ((some (x5_1 ++ [bt a0 ((Go.bits .or .u32 (Go.bits .or .u32 ((((bt a1 (ji5)) % 4294967296) * 65536) % 4294967296) ((((bt a1 (ji9)) % 4294967296) * 256) % 4294967296)) ((bt a1 (ji13)) % 4294967296)) / 262144)] : List Int)).bind fun y114 => (if 0 ≤ (Go.bits .and .u32 ((Go.bits .or .u32 (Go.bits .or .u32 ((((bt a1 (ji5)) % 4294967296) * 65536) % 4294967296) ((((bt a1 (ji9)) % 4294967296) * 256) % 4294967296)) ((bt a1 (ji13)) % 4294967296)) / 4096) 63) then (if (Go.bits .and .u32 ((Go.bits .or .u32 (Go.bits .or .u32 ((((bt a1 (ji5)) % 4294967296) * 65536) % 4294967296) ((((bt a1 (ji9)) % 4294967296) * 256) % 4294967296)) ((bt a1 (ji13)) % 4294967296)) / 4096) 63) < (a0.size : Int) then (if y114.length < 140737488355328 then ((some (y114 ++ [bt a0 (Go.bits .and .u32 ((Go.bits .or .u32 (Go.bits .or .u32 ((((bt a1 (ji5)) % 4294967296) * 65536) % 4294967296) ((((bt a1 (ji9)) % 4294967296) * 256) % 4294967296)) ((bt a1 (ji13)) % 4294967296)) / 4096) 63)] : List Int)).bind fun y116 => (if 0 ≤ (Go.bits .and .u32 ((Go.bits .or .u32 (Go.bits .or .u32 ((((bt a1 (ji5)) % 4294967296) * 65536) % 4294967296) ((((bt a1 (ji9)) % 4294967296) * 256) % 4294967296)) ((bt a1 (ji13)) % 4294967296)) / 64) 63) then (if (Go.bits .and .u32 ((Go.bits .or .u32 (Go.bits .or .u32 ((((bt a1 (ji5)) % 4294967296) * 65536) % 4294967296) ((((bt a1 (ji9)) % 4294967296) * 256) % 4294967296)) ((bt a1 (ji13)) % 4294967296)) / 64) 63) < (a0.size : Int) then (if y116.length < 140737488355328 then ((some (y116 ++ [bt a0 (Go.bits .and .u32 ((Go.bits .or .u32 (Go.bits .or .u32 ((((bt a1 (ji5)) % 4294967296) * 65536) % 4294967296) ((((bt a1 (ji9)) % 4294967296) * 256) % 4294967296)) ((bt a1 (ji13)) % 4294967296)) / 64) 63)] : List Int)).bind fun y118 => (if 0 ≤ (Go.bits .and .u32 (Go.bits .or .u32 (Go.bits .or .u32 ((((bt a1 (ji5)) % 4294967296) * 65536) % 4294967296) ((((bt a1 (ji9)) % 4294967296) * 256) % 4294967296)) ((bt a1 (ji13)) % 4294967296)) 63) then (if (Go.bits .and .u32 (Go.bits .or .u32 (Go.bits .or .u32 ((((bt a1 (ji5)) % 4294967296) * 65536) % 4294967296) ((((bt a1 (ji9)) % 4294967296) * 256) % 4294967296)) ((bt a1 (ji13)) % 4294967296)) 63) < (a0.size : Int) then (if y118.length < 140737488355328 then (radix_write.l0 k1 a0 a1 (y118 ++ [bt a0 (Go.bits .and .u32 (Go.bits .or .u32 (Go.bits .or .u32 ((((bt a1 (ji5)) % 4294967296) * 65536) % 4294967296) ((((bt a1 (ji9)) % 4294967296) * 256) % 4294967296)) ((bt a1 (ji13)) % 4294967296)) 63)]) (wrap64 ((a1.size : Int) / 3)) (wrap64 ((a1.size : Int) / 3)) (wrap64 (x15_1 + 1))) else (none)) else (none)) else (none))) else (none)) else (none)) else (none))) else (none)) else (none)) else (none))) else (none)) else (none)) else (none)) else (none)) else (none)) = some r := by first | (rw [hji13] at H; exact H) | (simp only [hji13] at H ⊢; exact H)
                have hji13w : (IntKind.i64.wrap ((ji5) + 2)) = ji13 := (i64_w _).trans hji13
                by_cases c14 : 0 ≤ (ji13)
                · rw [if_pos c14] at H
                  have c14b0 : decide (0 ≤ (ji13)) = true := decide_eq_true c14
                  clear c14
                  by_cases c15 : (ji13) < (a1.size : Int)
                  · rw [if_pos c15] at H
                    have c15b0 : decide ((ji13) < (a1.size : Int)) = true := decide_eq_true c15
                    clear c15
                    obtain ⟨ji17, hji17⟩ : ∃ j_ : Int, ((Go.bits .or .u32 (Go.bits .or .u32 ((((bt a1 (ji5)) % 4294967296) * 65536) % 4294967296) ((((bt a1 (ji9)) % 4294967296) * 256) % 4294967296)) ((bt a1 (ji13)) % 4294967296)) / 262144) = j_ := ⟨_, rfl⟩
                    replace H : (if 0 ≤ (ji17) then (if (ji17) < (a0.size : Int) then (if x5_1.length < 140737488355328 then ((some (x5_1 ++ [bt a0 (ji17)] : List Int)).bind fun y114 => (if 0 ≤ (Go.bits .and .u32 ((Go.bits .or .u32 (Go.bits .or .u32 ((((bt a1 (ji5)) % 4294967296) * 65536) % 4294967296) ((((bt a1 (ji9)) % 4294967296) * 256) % 4294967296)) ((bt a1 (ji13)) % 4294967296)) / 4096) 63) then (if (Go.bits .and .u32 ((Go.bits .or .u32 (Go.bits .or .u32 ((((bt a1 (ji5)) % 4294967296) * 65536) % 4294967296) ((((bt a1 (ji9)) % 4294967296) * 256) % 4294967296)) ((bt a1 (ji13)) % 4294967296)) / 4096) 63) < (a0.size : Int) then (if y114.length < 140737488355328 then ((some (y114 ++ [bt a0 (Go.bits .and .u32 ((Go.bits .or .u32 (Go.bits .or .u32 ((((bt a1 (ji5)) % 4294967296) * 65536) % 4294967296) ((((bt a1 (ji9)) % 4294967296) * 256) % 4294967296)) ((bt a1 (ji13)) % 4294967296)) / 4096) 63)] : List Int)).bind fun y116 => (if 0 ≤ (Go.bits .and .u32 ((Go.bits .or .u32 (Go.bits .or .u32 ((((bt a1 (ji5)) % 4294967296) * 65536) % 4294967296) ((((bt a1 (ji9)) % 4294967296) * 256) % 4294967296)) ((bt a1 (ji13)) % 4294967296)) / 64) 63) then (if (Go.bits .and .u32 ((Go.bits .or .u32 (Go.bits .or .u32 ((((bt a1 (ji5)) % 4294967296) * 65536) % 4294967296) ((((bt a1 (ji9)) % 4294967296) * 256) % 4294967296)) ((bt a1 (ji13)) % 4294967296)) / 64) 63) < (a0.size : Int) then (if y116.length < 140737488355328 then ((some (y116 ++ [bt a0 (Go.bits .and .u32 ((Go.bits .or .u32 (Go.bits .or .u32 ((((bt a1 (ji5)) % 4294967296) * 65536) % 4294967296) ((((bt a1 (ji9)) % 4294967296) * 256) % 4294967296)) ((bt a1 (ji13)) % 4294967296)) / 64) 63)] : List Int)).bind fun y118 => (if 0 ≤ (Go.bits .and .u32 (Go.bits .or .u32 (Go.bits .or .u32 ((((bt a1 (ji5)) % 4294967296) * 65536) % 4294967296) ((((bt a1 (ji9)) % 4294967296) * 256) % 4294967296)) ((bt a1 (ji13)) % 4294967296)) 63) then (if (Go.bits .and .u32 (Go.bits .or .u32 (Go.bits .or .u32 ((((bt a1 (ji5)) % 4294967296) * 65536) % 4294967296) ((((bt a1 (ji9)) % 4294967296) * 256) % 4294967296)) ((bt a1 (ji13)) % 4294967296)) 63) < (a0.size : Int) then (if y118.length < 140737488355328 then (radix_write.l0 k1 a0 a1 (y118 ++ [bt a0 (Go.bits .and .u32 (Go.bits .or .u32 (Go.bits .or .u32 ((((bt a1 (ji5)) % 4294967296) * 65536) % 4294967296) ((((bt a1 (ji9)) % 4294967296) * 256) % 4294967296)) ((bt a1 (ji13)) % 4294967296)) 63)]) (wrap64 ((a1.size : Int) / 3)) (wrap64 ((a1.size : Int) / 3)) (wrap64 (x15_1 + 1))) else (none)) else (none)) else (none))) else (none)) else (none)) else (none))) else (none)) else (none)) else (none))) else (none)) else (none)) else (none)) = some r := by first | (rw [hji17] at H; exact H) | (simp only [hji17] at H ⊢; exact H)
                    by_cases c18 : 0 ≤ (ji17)
                    · rw [if_pos c18] at H
                      have c18b0 : decide (0 ≤ (ji17)) = true := decide_eq_true c18
                      clear c18
                      by_cases c19 : (ji17) < (a0.size : Int)
                      · rw [if_pos c19] at H
                        have c19b0 : decide ((ji17) < (a0.size : Int)) = true := decide_eq_true c19
                        clear c19
                        by_cases c21 : x5_1.length < 140737488355328
                        · rw [if_pos c21] at H
                          have LMc21 := Aside0.mk c21
                          clear c21
                          obtain ⟨y114, hy114⟩ : ∃ y_ : List Int, y_ = (x5_1 ++ [bt a0 (ji17)]) := ⟨_, rfl⟩
                          replace H : (if 0 ≤ (Go.bits .and .u32 ((Go.bits .or .u32 (Go.bits .or .u32 ((((bt a1 (ji5)) % 4294967296) * 65536) % 4294967296) ((((bt a1 (ji9)) % 4294967296) * 256) % 4294967296)) ((bt a1 (ji13)) % 4294967296)) / 4096) 63) then (if (Go.bits .and .u32 ((Go.bits .or .u32 (Go.bits .or .u32 ((((bt a1 (ji5)) % 4294967296) * 65536) % 4294967296) ((((bt a1 (ji9)) % 4294967296) * 256) % 4294967296)) ((bt a1 (ji13)) % 4294967296)) / 4096) 63) < (a0.size : Int) then (if y114.length < 140737488355328 then ((some (y114 ++ [bt a0 (Go.bits .and .u32 ((Go.bits .or .u32 (Go.bits .or .u32 ((((bt a1 (ji5)) % 4294967296) * 65536) % 4294967296) ((((bt a1 (ji9)) % 4294967296) * 256) % 4294967296)) ((bt a1 (ji13)) % 4294967296)) / 4096) 63)] : List Int)).bind fun y116 => (if 0 ≤ (Go.bits .and .u32 ((Go.bits .or .u32 (Go.bits .or .u32 ((((bt a1 (ji5)) % 4294967296) * 65536) % 4294967296) ((((bt a1 (ji9)) % 4294967296) * 256) % 4294967296)) ((bt a1 (ji13)) % 4294967296)) / 64) 63) then (if (Go.bits .and .u32 ((Go.bits .or .u32 (Go.bits .or .u32 ((((bt a1 (ji5)) % 4294967296) * 65536) % 4294967296) ((((bt a1 (ji9)) % 4294967296) * 256) % 4294967296)) ((bt a1 (ji13)) % 4294967296)) / 64) 63) < (a0.size : Int) then (if y116.length < 140737488355328 then ((some (y116 ++ [bt a0 (Go.bits .and .u32 ((Go.bits .or .u32 (Go.bits .or .u32 ((((bt a1 (ji5)) % 4294967296) * 65536) % 4294967296) ((((bt a1 (ji9)) % 4294967296) * 256) % 4294967296)) ((bt a1 (ji13)) % 4294967296)) / 64) 63)] : List Int)).bind fun y118 => (if 0 ≤ (Go.bits .and .u32 (Go.bits .or .u32 (Go.bits .or .u32 ((((bt a1 (ji5)) % 4294967296) * 65536) % 4294967296) ((((bt a1 (ji9)) % 4294967296) * 256) % 4294967296)) ((bt a1 (ji13)) % 4294967296)) 63) then (if (Go.bits .and .u32 (Go.bits .or .u32 (Go.bits .or .u32 ((((bt a1 (ji5)) % 4294967296) * 65536) % 4294967296) ((((bt a1 (ji9)) % 4294967296) * 256) % 4294967296)) ((bt a1 (ji13)) % 4294967296)) 63) < (a0.size : Int) then (if y118.length < 140737488355328 then (radix_write.l0 k1 a0 a1 (y118 ++ [bt a0 (Go.bits .and .u32 (Go.bits .or .u32 (Go.bits .or .u32 ((((bt a1 (ji5)) % 4294967296) * 65536) % 4294967296) ((((bt a1 (ji9)) % 4294967296) * 256) % 4294967296)) ((bt a1 (ji13)) % 4294967296)) 63)]) (wrap64 ((a1.size : Int) / 3)) (wrap64 ((a1.size : Int) / 3)) (wrap64 (x15_1 + 1))) else (none)) else (none)) else (none))) else (none)) else (none)) else (none))) else (none)) else (none)) else (none)) = some r := by first | (rw [hy114]; with_reducible exact H) | (have H2_ := (Option.bind_some _ _).symm.trans H; rw [hy114]; with_reducible exact H2_) | (have H2_ := (Option.bind_some _ _).symm.trans H; with_reducible exact H2_) | with_reducible exact H | (rw [hy114]; exact H) | exact H
                          have Ny114 := Aside0.mk hy114
                          clear hy114
                          obtain ⟨ji22, hji22⟩ : ∃ j_ : Int, (Go.bits .and .u32 ((Go.bits .or .u32 (Go.bits .or .u32 ((((bt a1 (ji5)) % 4294967296) * 65536) % 4294967296) ((((bt a1 (ji9)) % 4294967296) * 256) % 4294967296)) ((bt a1 (ji13)) % 4294967296)) / 4096) 63) = j_ := ⟨_, rfl⟩
                          replace H : (if 0 ≤ (ji22) then (if (ji22) < (a0.size : Int) then (if y114.length < 140737488355328 then ((some (y114 ++ [bt a0 (ji22)] : List Int)).bind fun y116 => (if 0 ≤ (Go.bits .and .u32 ((Go.bits .or .u32 (Go.bits .or .u32 ((((bt a1 (ji5)) % 4294967296) * 65536) % 4294967296) ((((bt a1 (ji9)) % 4294967296) * 256) % 4294967296)) ((bt a1 (ji13)) % 4294967296)) / 64) 63) then (if (Go.bits .and .u32 ((Go.bits .or .u32 (Go.bits .or .u32 ((((bt a1 (ji5)) % 4294967296) * 65536) % 4294967296) ((((bt a1 (ji9)) % 4294967296) * 256) % 4294967296)) ((bt a1 (ji13)) % 4294967296)) / 64) 63) < (a0.size : Int) then (if y116.length < 140737488355328 then ((some (y116 ++ [bt a0 (Go.bits .and .u32 ((Go.bits .or .u32 (Go.bits .or .u32 ((((bt a1 (ji5)) % 4294967296) * 65536) % 4294967296) ((((bt a1 (ji9)) % 4294967296) * 256) % 4294967296)) ((bt a1 (ji13)) % 4294967296)) / 64) 63)] : List Int)).bind fun y118 => (if 0 ≤ (Go.bits .and .u32 (Go.bits .or .u32 (Go.bits .or .u32 ((((bt a1 (ji5)) % 4294967296) * 65536) % 4294967296) ((((bt a1 (ji9)) % 4294967296) * 256) % 4294967296)) ((bt a1 (ji13)) % 4294967296)) 63) then (if (Go.bits .and .u32 (Go.bits .or .u32 (Go.bits .or .u32 ((((bt a1 (ji5)) % 4294967296) * 65536) % 4294967296) ((((bt a1 (ji9)) % 4294967296) * 256) % 4294967296)) ((bt a1 (ji13)) % 4294967296)) 63) < (a0.size : Int) then (if y118.length < 140737488355328 then (radix_write.l0 k1 a0 a1 (y118 ++ [bt a0 (Go.bits .and .u32 (Go.bits .or .u32 (Go.bits .or .u32 ((((bt a1 (ji5)) % 4294967296) * 65536) % 4294967296) ((((bt a1 (ji9)) % 4294967296) * 256) % 4294967296)) ((bt a1 (ji13)) % 4294967296)) 63)]) (wrap64 ((a1.size : Int) / 3)) (wrap64 ((a1.size : Int) / 3)) (wrap64 (x15_1 + 1))) else (none)) else (none)) else (none))) else (none)) else (none)) else (none))) else (none)) else (none)) else (none)) = some r := by first | (rw [hji22] at H; exact H) | (simp only [hji22] at H ⊢; exact H)
                          by_cases c23 : 0 ≤ (ji22)
                          · rw [if_pos c23] at H
                            have c23b0 : decide (0 ≤ (ji22)) = true := decide_eq_true c23
                            clear c23
                            by_cases c24 : (ji22) < (a0.size : Int)
                            · rw [if_pos c24] at H
                              have c24b0 : decide ((ji22) < (a0.size : Int)) = true := decide_eq_true c24
                              clear c24
                              by_cases c26 : y114.length < 140737488355328
                              · rw [if_pos c26] at H
                                have LMc26 := Aside0.mk c26
                                clear c26
                                obtain ⟨y116, hy116⟩ : ∃ y_ : List Int, y_ = (y114 ++ [bt a0 (ji22)]) := ⟨_, rfl⟩
                                replace H : (if 0 ≤ (Go.bits .and .u32 ((Go.bits .or .u32 (Go.bits .or .u32 ((((bt a1 (ji5)) % 4294967296) * 65536) % 4294967296) ((((bt a1 (ji9)) % 4294967296) * 256) % 4294967296)) ((bt a1 (ji13)) % 4294967296)) / 64) 63) then (if (Go.bits .and .u32 ((Go.bits .or .u32 (Go.bits .or .u32 ((((bt a1 (ji5)) % 4294967296) * 65536) % 4294967296) ((((bt a1 (ji9)) % 4294967296) * 256) % 4294967296)) ((bt a1 (ji13)) % 4294967296)) / 64) 63) < (a0.size : Int) then (if y116.length < 140737488355328 then ((some (y116 ++ [bt a0 (Go.bits .and .u32 ((Go.bits .or .u32 (Go.bits .or .u32 ((((bt a1 (ji5)) % 4294967296) * 65536) % 4294967296) ((((bt a1 (ji9)) % 4294967296) * 256) % 4294967296)) ((bt a1 (ji13)) % 4294967296)) / 64) 63)] : List Int)).bind fun y118 => (if 0 ≤ (Go.bits .and .u32 (Go.bits .or .u32 (Go.bits .or .u32 ((((bt a1 (ji5)) % 4294967296) * 65536) % 4294967296) ((((bt a1 (ji9)) % 4294967296) * 256) % 4294967296)) ((bt a1 (ji13)) % 4294967296)) 63) then (if (Go.bits .and .u32 (Go.bits .or .u32 (Go.bits .or .u32 ((((bt a1 (ji5)) % 4294967296) * 65536) % 4294967296) ((((bt a1 (ji9)) % 4294967296) * 256) % 4294967296)) ((bt a1 (ji13)) % 4294967296)) 63) < (a0.size : Int) then (if y118.length < 140737488355328 then (radix_write.l0 k1 a0 a1 (y118 ++ [bt a0 (Go.bits .and .u32 (Go.bits .or .u32 (Go.bits .or .u32 ((((bt a1 (ji5)) % 4294967296) * 65536) % 4294967296) ((((bt a1 (ji9)) % 4294967296) * 256) % 4294967296)) ((bt a1 (ji13)) % 4294967296)) 63)]) (wrap64 ((a1.size : Int) / 3)) (wrap64 ((a1.size : Int) / 3)) (wrap64 (x15_1 + 1))) else (none)) else (none)) else (none))) else (none)) else (none)) else (none)) = some r := by first | (rw [hy116]; with_reducible exact H) | (have H2_ := (Option.bind_some _ _).symm.trans H; rw [hy116]; with_reducible exact H2_) | (have H2_ := (Option.bind_some _ _).symm.trans H; with_reducible exact H2_) | with_reducible exact H | (rw [hy116]; exact H) | exact H
                                have Ny116 := Aside0.mk hy116
                                clear hy116
                                obtain ⟨ji27, hji27⟩ : ∃ j_ : Int, (Go.bits .and .u32 ((Go.bits .or .u32 (Go.bits .or .u32 ((((bt a1 (ji5)) % 4294967296) * 65536) % 4294967296) ((((bt a1 (ji9)) % 4294967296) * 256) % 4294967296)) ((bt a1 (ji13)) % 4294967296)) / 64) 63) = j_ := ⟨_, rfl⟩
                                replace H : (if 0 ≤ (ji27) then (if (ji27) < (a0.size : Int) then (if y116.length < 140737488355328 then ((some (y116 ++ [bt a0 (ji27)] : List Int)).bind fun y118 => (if 0 ≤ (Go.bits .and .u32 (Go.bits .or .u32 (Go.bits .or .u32 ((((bt a1 (ji5)) % 4294967296) * 65536) % 4294967296) ((((bt a1 (ji9)) % 4294967296) * 256) % 4294967296)) ((bt a1 (ji13)) % 4294967296)) 63) then (if (Go.bits .and .u32 (Go.bits .or .u32 (Go.bits .or .u32 ((((bt a1 (ji5)) % 4294967296) * 65536) % 4294967296) ((((bt a1 (ji9)) % 4294967296) * 256) % 4294967296)) ((bt a1 (ji13)) % 4294967296)) 63) < (a0.size : Int) then (if y118.length < 140737488355328 then (radix_write.l0 k1 a0 a1 (y118 ++ [bt a0 (Go.bits .and .u32 (Go.bits .or .u32 (Go.bits .or .u32 ((((bt a1 (ji5)) % 4294967296) * 65536) % 4294967296) ((((bt a1 (ji9)) % 4294967296) * 256) % 4294967296)) ((bt a1 (ji13)) % 4294967296)) 63)]) (wrap64 ((a1.size : Int) / 3)) (wrap64 ((a1.size : Int) / 3)) (wrap64 (x15_1 + 1))) else (none)) else (none)) else (none))) else (none)) else (none)) else (none)) = some r := by first | (rw [hji27] at H; exact H) | (simp only [hji27] at H ⊢; exact H)
                                by_cases c28 : 0 ≤ (ji27)
                                · rw [if_pos c28] at H
                                  have c28b0 : decide (0 ≤ (ji27)) = true := decide_eq_true c28
                                  clear c28
                                  by_cases c29 : (ji27) < (a0.size : Int)
                                  · rw [if_pos c29] at H
                                    have c29b0 : decide ((ji27) < (a0.size : Int)) = true := decide_eq_true c29
                                    clear c29
                                    by_cases c31 : y116.length < 140737488355328
                                    · rw [if_pos c31] at H
                                      have LMc31 := Aside0.mk c31
                                      clear c31
                                      obtain ⟨y118, hy118⟩ : ∃ y_ : List Int, y_ = (y116 ++ [bt a0 (ji27)]) := ⟨_, rfl⟩
                                      replace H : (if 0 ≤ (Go.bits .and .u32 (Go.bits .or .u32 (Go.bits .or .u32 ((((bt a1 (ji5)) % 4294967296) * 65536) % 4294967296) ((((bt a1 (ji9)) % 4294967296) * 256) % 4294967296)) ((bt a1 (ji13)) % 4294967296)) 63) then (if (Go.bits .and .u32 (Go.bits .or .u32 (Go.bits .or .u32 ((((bt a1 (ji5)) % 4294967296) * 65536) % 4294967296) ((((bt a1 (ji9)) % 4294967296) * 256) % 4294967296)) ((bt a1 (ji13)) % 4294967296)) 63) < (a0.size : Int) then (if y118.length < 140737488355328 then (radix_write.l0 k1 a0 a1 (y118 ++ [bt a0 (Go.bits .and .u32 (Go.bits .or .u32 (Go.bits .or .u32 ((((bt a1 (ji5)) % 4294967296) * 65536) % 4294967296) ((((bt a1 (ji9)) % 4294967296) * 256) % 4294967296)) ((bt a1 (ji13)) % 4294967296)) 63)]) (wrap64 ((a1.size : Int) / 3)) (wrap64 ((a1.size : Int) / 3)) (wrap64 (x15_1 + 1))) else (none)) else (none)) else (none)) = some r := by first | (rw [hy118]; with_reducible exact H) | (have H2_ := (Option.bind_some _ _).symm.trans H; rw [hy118]; with_reducible exact H2_) | (have H2_ := (Option.bind_some _ _).symm.trans H; with_reducible exact H2_) | with_reducible exact H | (rw [hy118]; exact H) | exact H
                                      have Ny118 := Aside0.mk hy118
                                      clear hy118
                                      obtain ⟨ji32, hji32⟩ : ∃ j_ : Int, (Go.bits .and .u32 (Go.bits .or .u32 (Go.bits .or .u32 ((((bt a1 (ji5)) % 4294967296) * 65536) % 4294967296) ((((bt a1 (ji9)) % 4294967296) * 256) % 4294967296)) ((bt a1 (ji13)) % 4294967296)) 63) = j_ := ⟨_, rfl⟩
                                      replace H : (if 0 ≤ (ji32) then (if (ji32) < (a0.size : Int) then (if y118.length < 140737488355328 then (radix_write.l0 k1 a0 a1 (y118 ++ [bt a0 (ji32)]) (wrap64 ((a1.size : Int) / 3)) (wrap64 ((a1.size : Int) / 3)) (wrap64 (x15_1 + 1))) else (none)) else (none)) else (none)) = some r := by first | (rw [hji32] at H; exact H) | (simp only [hji32] at H ⊢; exact H)
                                      by_cases c33 : 0 ≤ (ji32)
                                      · rw [if_pos c33] at H
                                        have c33b0 : decide (0 ≤ (ji32)) = true := decide_eq_true c33
                                        clear c33
                                        by_cases c34 : (ji32) < (a0.size : Int)
                                        · rw [if_pos c34] at H
                                          have c34b0 : decide ((ji32) < (a0.size : Int)) = true := decide_eq_true c34
                                          clear c34
                                          by_cases c36 : y118.length < 140737488355328
                                          · rw [if_pos c36] at H
                                            have LMc36 := Aside0.mk c36
                                            clear c36
                                            obtain ⟨y120, hy120⟩ : ∃ y_ : List Int, y_ = (y118 ++ [bt a0 (ji32)]) := ⟨_, rfl⟩
                                            replace H : (radix_write.l0 k1 a0 a1 y120 (wrap64 ((a1.size : Int) / 3)) (wrap64 ((a1.size : Int) / 3)) (wrap64 (x15_1 + 1))) = some r := by first | (rw [hy120]; with_reducible exact H) | (have H2_ := (Option.bind_some _ _).symm.trans H; rw [hy120]; with_reducible exact H2_) | (have H2_ := (Option.bind_some _ _).symm.trans H; with_reducible exact H2_) | with_reducible exact H | (rw [hy120]; exact H) | exact H
                                            have Ny120 := Aside0.mk hy120
                                            clear hy120
                                            have H' := Aside0.mk H
                                            clear H
                                            have p8 : 0 ≤ ((ji5) : Int) := of_decide_eq_true (by first | (with_reducible assumption) | assumption)
                                            have q8 : (ji5) < (a1.size : Int) := of_decide_eq_true (by first | (with_reducible assumption) | assumption)
                                            have hx8 := bt_at a1 (ji5)
                                            replace p8 := eq_true p8
                                            replace q8 := eq_true q8
                                            have p12 : 0 ≤ ((ji9) : Int) := of_decide_eq_true (by first | (with_reducible assumption) | assumption)
                                            have q12 : (ji9) < (a1.size : Int) := of_decide_eq_true (by first | (with_reducible assumption) | assumption)
                                            have hx12 := bt_at a1 (ji9)
                                            replace p12 := eq_true p12
                                            replace q12 := eq_true q12
                                            have p16 : 0 ≤ ((ji13) : Int) := of_decide_eq_true (by first | (with_reducible assumption) | assumption)
                                            have q16 : (ji13) < (a1.size : Int) := of_decide_eq_true (by first | (with_reducible assumption) | assumption)
                                            have hx16 := bt_at a1 (ji13)
                                            replace p16 := eq_true p16
                                            replace q16 := eq_true q16
                                            have p20 : 0 ≤ ((ji17) : Int) := of_decide_eq_true (by first | (with_reducible assumption) | assumption)
                                            have q20 : (ji17) < (a0.size : Int) := of_decide_eq_true (by first | (with_reducible assumption) | assumption)
                                            have hx20 := bt_at a0 (ji17)
                                            replace p20 := eq_true p20
                                            replace q20 := eq_true q20
                                            go_wp2_with (first | ((with_reducible refine gate_callee (f := 73) rfl ?_); refine goesL_ (some 43) rfl rfl Tryd.func73 (by kernel_rfl) rfl #[.pointer (some ⟨gb112, 0, none⟩), .int .u8 (bt a0 (ji17))] rfl (by (try simp only [List.map_toArray, List.map_cons, List.map_nil]); first | done | rfl | (simp; done)) ?_; (refine (Kd.B_WriteByte (by (with_reducible repeat (first | apply Kd.B_alloc | apply Kd.B_drewN | apply Kd.B_drew)); exact HO_5.out) (bt a0 (ji17)) (by have := LMc21.out; omega) (by first | exact bt_range _ _ | (constructor <;> decide) | exact mod_range _ | omega)).mono ?_); rintro e w37 ⟨rfl, ho, hk⟩; refine ⟨_, rfl, ?_⟩; rw [← Ny114.out] at ho; have n0_ := Aside0.mk (Below.trans (by repeat (first | (with_reducible first | exact HB.out | apply below_alloc | apply pw_below_drewN | apply below_drew1) | exact HB.out)) hk.below); have n1_ := Aside0.mk (ho); clear HB; clear HO_5; have HB := n0_; have HO115 := n1_; clear n0_ n1_; clear ho hk; have p25 : 0 ≤ ((ji22) : Int) := of_decide_eq_true (by first | (with_reducible assumption) | assumption); have q25 : (ji22) < (a0.size : Int) := of_decide_eq_true (by first | (with_reducible assumption) | assumption); have hx25 := bt_at a0 (ji22); replace p25 := eq_true p25; replace q25 := eq_true q25) | ((with_reducible refine gate_callee (f := 73) rfl ?_); refine goesL_ (some 49) rfl rfl Tryd.func73 (by kernel_rfl) rfl #[.pointer (some ⟨gb112, 0, none⟩), .int .u8 (bt a0 (ji22))] rfl (by (try simp only [List.map_toArray, List.map_cons, List.map_nil]); first | done | rfl | (simp; done)) ?_; (refine (Kd.B_WriteByte (by (with_reducible repeat (first | apply Kd.B_alloc | apply Kd.B_drewN | apply Kd.B_drew)); exact HO115.out) (bt a0 (ji22)) (by have := LMc26.out; omega) (by first | exact bt_range _ _ | (constructor <;> decide) | exact mod_range _ | omega)).mono ?_); rintro e w38 ⟨rfl, ho, hk⟩; refine ⟨_, rfl, ?_⟩; rw [← Ny116.out] at ho; have n0_ := Aside0.mk (Below.trans (by repeat (first | (with_reducible first | exact HB.out | apply below_alloc | apply pw_below_drewN | apply below_drew1) | exact HB.out)) hk.below); have n1_ := Aside0.mk (ho); clear HB; clear HO115; have HB := n0_; have HO117 := n1_; clear n0_ n1_; clear ho hk; have p30 : 0 ≤ ((ji27) : Int) := of_decide_eq_true (by first | (with_reducible assumption) | assumption); have q30 : (ji27) < (a0.size : Int) := of_decide_eq_true (by first | (with_reducible assumption) | assumption); have hx30 := bt_at a0 (ji27); replace p30 := eq_true p30; replace q30 := eq_true q30) | ((with_reducible refine gate_callee (f := 73) rfl ?_); refine goesL_ (some 55) rfl rfl Tryd.func73 (by kernel_rfl) rfl #[.pointer (some ⟨gb112, 0, none⟩), .int .u8 (bt a0 (ji27))] rfl (by (try simp only [List.map_toArray, List.map_cons, List.map_nil]); first | done | rfl | (simp; done)) ?_; (refine (Kd.B_WriteByte (by (with_reducible repeat (first | apply Kd.B_alloc | apply Kd.B_drewN | apply Kd.B_drew)); exact HO117.out) (bt a0 (ji27)) (by have := LMc31.out; omega) (by first | exact bt_range _ _ | (constructor <;> decide) | exact mod_range _ | omega)).mono ?_); rintro e w39 ⟨rfl, ho, hk⟩; refine ⟨_, rfl, ?_⟩; rw [← Ny118.out] at ho; have n0_ := Aside0.mk (Below.trans (by repeat (first | (with_reducible first | exact HB.out | apply below_alloc | apply pw_below_drewN | apply below_drew1) | exact HB.out)) hk.below); have n1_ := Aside0.mk (ho); clear HB; clear HO117; have HB := n0_; have HO119 := n1_; clear n0_ n1_; clear ho hk; have p35 : 0 ≤ ((ji32) : Int) := of_decide_eq_true (by first | (with_reducible assumption) | assumption); have q35 : (ji32) < (a0.size : Int) := of_decide_eq_true (by first | (with_reducible assumption) | assumption); have hx35 := bt_at a0 (ji32); replace p35 := eq_true p35; replace q35 := eq_true q35) | ((with_reducible refine gate_callee (f := 73) rfl ?_); refine goesL_ (some 60) rfl rfl Tryd.func73 (by kernel_rfl) rfl #[.pointer (some ⟨gb112, 0, none⟩), .int .u8 (bt a0 (ji32))] rfl (by (try simp only [List.map_toArray, List.map_cons, List.map_nil]); first | done | rfl | (simp; done)) ?_; (refine (Kd.B_WriteByte (by (with_reducible repeat (first | apply Kd.B_alloc | apply Kd.B_drewN | apply Kd.B_drew)); exact HO119.out) (bt a0 (ji32)) (by have := LMc36.out; omega) (by first | exact bt_range _ _ | (constructor <;> decide) | exact mod_range _ | omega)).mono ?_); rintro e w40 ⟨rfl, ho, hk⟩; refine ⟨_, rfl, ?_⟩; rw [← Ny120.out] at ho; have n0_ := Aside0.mk (Below.trans (by repeat (first | (with_reducible first | exact HB.out | apply below_alloc | apply pw_below_drewN | apply below_drew1) | exact HB.out)) hk.below); have n1_ := Aside0.mk (ho); clear HB; clear HO119; have HB := n0_; have HO121 := n1_; clear n0_ n1_; clear ho hk))
                                            repeat (go_quiet (first | ((with_reducible refine gate_callee (f := 73) rfl ?_); refine goesL_ (some 43) rfl rfl Tryd.func73 (by kernel_rfl) rfl #[.pointer (some ⟨gb112, 0, none⟩), .int .u8 (bt a0 (ji17))] rfl (by (try simp only [List.map_toArray, List.map_cons, List.map_nil]); first | done | rfl | (simp; done)) ?_; (refine (Kd.B_WriteByte (by (with_reducible repeat (first | apply Kd.B_alloc | apply Kd.B_drewN | apply Kd.B_drew)); exact HO_5.out) (bt a0 (ji17)) (by have := LMc21.out; omega) (by first | exact bt_range _ _ | (constructor <;> decide) | exact mod_range _ | omega)).mono ?_); rintro e w37 ⟨rfl, ho, hk⟩; refine ⟨_, rfl, ?_⟩; rw [← Ny114.out] at ho; have n0_ := Aside0.mk (Below.trans (by repeat (first | (with_reducible first | exact HB.out | apply below_alloc | apply pw_below_drewN | apply below_drew1) | exact HB.out)) hk.below); have n1_ := Aside0.mk (ho); clear HB; clear HO_5; have HB := n0_; have HO115 := n1_; clear n0_ n1_; clear ho hk; have p25 : 0 ≤ ((ji22) : Int) := of_decide_eq_true (by first | (with_reducible assumption) | assumption); have q25 : (ji22) < (a0.size : Int) := of_decide_eq_true (by first | (with_reducible assumption) | assumption); have hx25 := bt_at a0 (ji22); replace p25 := eq_true p25; replace q25 := eq_true q25) | ((with_reducible refine gate_callee (f := 73) rfl ?_); refine goesL_ (some 49) rfl rfl Tryd.func73 (by kernel_rfl) rfl #[.pointer (some ⟨gb112, 0, none⟩), .int .u8 (bt a0 (ji22))] rfl (by (try simp only [List.map_toArray, List.map_cons, List.map_nil]); first | done | rfl | (simp; done)) ?_; (refine (Kd.B_WriteByte (by (with_reducible repeat (first | apply Kd.B_alloc | apply Kd.B_drewN | apply Kd.B_drew)); exact HO115.out) (bt a0 (ji22)) (by have := LMc26.out; omega) (by first | exact bt_range _ _ | (constructor <;> decide) | exact mod_range _ | omega)).mono ?_); rintro e w38 ⟨rfl, ho, hk⟩; refine ⟨_, rfl, ?_⟩; rw [← Ny116.out] at ho; have n0_ := Aside0.mk (Below.trans (by repeat (first | (with_reducible first | exact HB.out | apply below_alloc | apply pw_below_drewN | apply below_drew1) | exact HB.out)) hk.below); have n1_ := Aside0.mk (ho); clear HB; clear HO115; have HB := n0_; have HO117 := n1_; clear n0_ n1_; clear ho hk; have p30 : 0 ≤ ((ji27) : Int) := of_decide_eq_true (by first | (with_reducible assumption) | assumption); have q30 : (ji27) < (a0.size : Int) := of_decide_eq_true (by first | (with_reducible assumption) | assumption); have hx30 := bt_at a0 (ji27); replace p30 := eq_true p30; replace q30 := eq_true q30) | ((with_reducible refine gate_callee (f := 73) rfl ?_); refine goesL_ (some 55) rfl rfl Tryd.func73 (by kernel_rfl) rfl #[.pointer (some ⟨gb112, 0, none⟩), .int .u8 (bt a0 (ji27))] rfl (by (try simp only [List.map_toArray, List.map_cons, List.map_nil]); first | done | rfl | (simp; done)) ?_; (refine (Kd.B_WriteByte (by (with_reducible repeat (first | apply Kd.B_alloc | apply Kd.B_drewN | apply Kd.B_drew)); exact HO117.out) (bt a0 (ji27)) (by have := LMc31.out; omega) (by first | exact bt_range _ _ | (constructor <;> decide) | exact mod_range _ | omega)).mono ?_); rintro e w39 ⟨rfl, ho, hk⟩; refine ⟨_, rfl, ?_⟩; rw [← Ny118.out] at ho; have n0_ := Aside0.mk (Below.trans (by repeat (first | (with_reducible first | exact HB.out | apply below_alloc | apply pw_below_drewN | apply below_drew1) | exact HB.out)) hk.below); have n1_ := Aside0.mk (ho); clear HB; clear HO117; have HB := n0_; have HO119 := n1_; clear n0_ n1_; clear ho hk; have p35 : 0 ≤ ((ji32) : Int) := of_decide_eq_true (by first | (with_reducible assumption) | assumption); have q35 : (ji32) < (a0.size : Int) := of_decide_eq_true (by first | (with_reducible assumption) | assumption); have hx35 := bt_at a0 (ji32); replace p35 := eq_true p35; replace q35 := eq_true q35) | ((with_reducible refine gate_callee (f := 73) rfl ?_); refine goesL_ (some 60) rfl rfl Tryd.func73 (by kernel_rfl) rfl #[.pointer (some ⟨gb112, 0, none⟩), .int .u8 (bt a0 (ji32))] rfl (by (try simp only [List.map_toArray, List.map_cons, List.map_nil]); first | done | rfl | (simp; done)) ?_; (refine (Kd.B_WriteByte (by (with_reducible repeat (first | apply Kd.B_alloc | apply Kd.B_drewN | apply Kd.B_drew)); exact HO119.out) (bt a0 (ji32)) (by have := LMc36.out; omega) (by first | exact bt_range _ _ | (constructor <;> decide) | exact mod_range _ | omega)).mono ?_); rintro e w40 ⟨rfl, ho, hk⟩; refine ⟨_, rfl, ?_⟩; rw [← Ny120.out] at ho; have n0_ := Aside0.mk (Below.trans (by repeat (first | (with_reducible first | exact HB.out | apply below_alloc | apply pw_below_drewN | apply below_drew1) | exact HB.out)) hk.below); have n1_ := Aside0.mk (ho); clear HB; clear HO119; have HB := n0_; have HO121 := n1_; clear n0_ n1_; clear ho hk)); try go_wp2_with (first | ((with_reducible refine gate_callee (f := 73) rfl ?_); refine goesL_ (some 43) rfl rfl Tryd.func73 (by kernel_rfl) rfl #[.pointer (some ⟨gb112, 0, none⟩), .int .u8 (bt a0 (ji17))] rfl (by (try simp only [List.map_toArray, List.map_cons, List.map_nil]); first | done | rfl | (simp; done)) ?_; (refine (Kd.B_WriteByte (by (with_reducible repeat (first | apply Kd.B_alloc | apply Kd.B_drewN | apply Kd.B_drew)); exact HO_5.out) (bt a0 (ji17)) (by have := LMc21.out; omega) (by first | exact bt_range _ _ | (constructor <;> decide) | exact mod_range _ | omega)).mono ?_); rintro e w37 ⟨rfl, ho, hk⟩; refine ⟨_, rfl, ?_⟩; rw [← Ny114.out] at ho; have n0_ := Aside0.mk (Below.trans (by repeat (first | (with_reducible first | exact HB.out | apply below_alloc | apply pw_below_drewN | apply below_drew1) | exact HB.out)) hk.below); have n1_ := Aside0.mk (ho); clear HB; clear HO_5; have HB := n0_; have HO115 := n1_; clear n0_ n1_; clear ho hk; have p25 : 0 ≤ ((ji22) : Int) := of_decide_eq_true (by first | (with_reducible assumption) | assumption); have q25 : (ji22) < (a0.size : Int) := of_decide_eq_true (by first | (with_reducible assumption) | assumption); have hx25 := bt_at a0 (ji22); replace p25 := eq_true p25; replace q25 := eq_true q25) | ((with_reducible refine gate_callee (f := 73) rfl ?_); refine goesL_ (some 49) rfl rfl Tryd.func73 (by kernel_rfl) rfl #[.pointer (some ⟨gb112, 0, none⟩), .int .u8 (bt a0 (ji22))] rfl (by (try simp only [List.map_toArray, List.map_cons, List.map_nil]); first | done | rfl | (simp; done)) ?_; (refine (Kd.B_WriteByte (by (with_reducible repeat (first | apply Kd.B_alloc | apply Kd.B_drewN | apply Kd.B_drew)); exact HO115.out) (bt a0 (ji22)) (by have := LMc26.out; omega) (by first | exact bt_range _ _ | (constructor <;> decide) | exact mod_range _ | omega)).mono ?_); rintro e w38 ⟨rfl, ho, hk⟩; refine ⟨_, rfl, ?_⟩; rw [← Ny116.out] at ho; have n0_ := Aside0.mk (Below.trans (by repeat (first | (with_reducible first | exact HB.out | apply below_alloc | apply pw_below_drewN | apply below_drew1) | exact HB.out)) hk.below); have n1_ := Aside0.mk (ho); clear HB; clear HO115; have HB := n0_; have HO117 := n1_; clear n0_ n1_; clear ho hk; have p30 : 0 ≤ ((ji27) : Int) := of_decide_eq_true (by first | (with_reducible assumption) | assumption); have q30 : (ji27) < (a0.size : Int) := of_decide_eq_true (by first | (with_reducible assumption) | assumption); have hx30 := bt_at a0 (ji27); replace p30 := eq_true p30; replace q30 := eq_true q30) | ((with_reducible refine gate_callee (f := 73) rfl ?_); refine goesL_ (some 55) rfl rfl Tryd.func73 (by kernel_rfl) rfl #[.pointer (some ⟨gb112, 0, none⟩), .int .u8 (bt a0 (ji27))] rfl (by (try simp only [List.map_toArray, List.map_cons, List.map_nil]); first | done | rfl | (simp; done)) ?_; (refine (Kd.B_WriteByte (by (with_reducible repeat (first | apply Kd.B_alloc | apply Kd.B_drewN | apply Kd.B_drew)); exact HO117.out) (bt a0 (ji27)) (by have := LMc31.out; omega) (by first | exact bt_range _ _ | (constructor <;> decide) | exact mod_range _ | omega)).mono ?_); rintro e w39 ⟨rfl, ho, hk⟩; refine ⟨_, rfl, ?_⟩; rw [← Ny118.out] at ho; have n0_ := Aside0.mk (Below.trans (by repeat (first | (with_reducible first | exact HB.out | apply below_alloc | apply pw_below_drewN | apply below_drew1) | exact HB.out)) hk.below); have n1_ := Aside0.mk (ho); clear HB; clear HO117; have HB := n0_; have HO119 := n1_; clear n0_ n1_; clear ho hk; have p35 : 0 ≤ ((ji32) : Int) := of_decide_eq_true (by first | (with_reducible assumption) | assumption); have q35 : (ji32) < (a0.size : Int) := of_decide_eq_true (by first | (with_reducible assumption) | assumption); have hx35 := bt_at a0 (ji32); replace p35 := eq_true p35; replace q35 := eq_true q35) | ((with_reducible refine gate_callee (f := 73) rfl ?_); refine goesL_ (some 60) rfl rfl Tryd.func73 (by kernel_rfl) rfl #[.pointer (some ⟨gb112, 0, none⟩), .int .u8 (bt a0 (ji32))] rfl (by (try simp only [List.map_toArray, List.map_cons, List.map_nil]); first | done | rfl | (simp; done)) ?_; (refine (Kd.B_WriteByte (by (with_reducible repeat (first | apply Kd.B_alloc | apply Kd.B_drewN | apply Kd.B_drew)); exact HO119.out) (bt a0 (ji32)) (by have := LMc36.out; omega) (by first | exact bt_range _ _ | (constructor <;> decide) | exact mod_range _ | omega)).mono ?_); rintro e w40 ⟨rfl, ho, hk⟩; refine ⟨_, rfl, ?_⟩; rw [← Ny120.out] at ho; have n0_ := Aside0.mk (Below.trans (by repeat (first | (with_reducible first | exact HB.out | apply below_alloc | apply pw_below_drewN | apply below_drew1) | exact HB.out)) hk.below); have n1_ := Aside0.mk (ho); clear HB; clear HO119; have HB := n0_; have HO121 := n1_; clear n0_ n1_; clear ho hk)))
                                            go_roundg k1
                                            case measure => have := HK1.out; omega
                                            case rel => exact ⟨(y120), (wrap64 (x15_1 + 1)), (by first | rfl | (simp; done) | (simp [*]; done)), H', ⟨by have := HK1.out; omega⟩, ⟨by (with_reducible repeat (first | apply Kd.B_alloc | apply Kd.B_drewN | apply Kd.B_drew)); exact HO121.out⟩, ⟨by repeat (first | (with_reducible first | exact HB.out | apply below_alloc | apply pw_below_drewN | apply below_drew1) | exact HB.out)⟩⟩
                                          · rw [if_neg c36] at H
                                            exact absurd H (by simp)
                                        · rw [if_neg c34] at H
                                          exact absurd H (by simp)
                                      · rw [if_neg c33] at H
                                        exact absurd H (by simp)
                                    · rw [if_neg c31] at H
                                      exact absurd H (by simp)
                                  · rw [if_neg c29] at H
                                    exact absurd H (by simp)
                                · rw [if_neg c28] at H
                                  exact absurd H (by simp)
                              · rw [if_neg c26] at H
                                exact absurd H (by simp)
                            · rw [if_neg c24] at H
                              exact absurd H (by simp)
                          · rw [if_neg c23] at H
                            exact absurd H (by simp)
                        · rw [if_neg c21] at H
                          exact absurd H (by simp)
                      · rw [if_neg c19] at H
                        exact absurd H (by simp)
                    · rw [if_neg c18] at H
                      exact absurd H (by simp)
                  · rw [if_neg c15] at H
                    exact absurd H (by simp)
                · rw [if_neg c14] at H
                  exact absurd H (by simp)
              · rw [if_neg c11] at H
                exact absurd H (by simp)
            · rw [if_neg c10] at H
              exact absurd H (by simp)
          · rw [if_neg c7] at H
            exact absurd H (by simp)
        · rw [if_neg c6] at H
          exact absurd H (by simp)
      · rw [if_neg c4] at H
        have c4b0 : decide (x15_1 < (wrap64 ((a1.size : Int) / 3))) = false := decide_eq_false c4
        clear c4
        have HC41 := Aside0.mk H
        clear H
        go_upto_region 12 with (fail)
        repeat (go_quiet (fail); go_upto_region 12 with (fail))
        go_cut [9] (fun v9 wc => ∃ (kq : Nat) (x9_40 : ByteArray), v9 = .string x9_40 ∧ Aside0 (radix_write.j1 kq a0 x5_1 x9_40 = some r) ∧ Aside0 (kq ≤ k1) ∧ Aside0 (Kd.B (Kd.int .u8) 72 wc w.heap.size (fun _ => True) (.pointer (some ⟨gb112, 0, none⟩)) x5_1) ∧ Aside0 (Below w.heap.size w wc))
        case first =>
          have H := HC41.out
          clear HC41
          obtain ⟨ji42, hji42⟩ : ∃ j_ : Int, (wrap64 (3 * (wrap64 ((a1.size : Int) / 3)))) = j_ := ⟨_, rfl⟩
          replace H : (if 0 ≤ (ji42) then (if (ji42) ≤ (a1.size : Int) then (radix_write.j1 k1 a0 x5_1 (a1.extract ((ji42) : Int).toNat a1.size)) else (none)) else (none)) = some r := by first | (rw [hji42] at H; exact H) | (simp only [hji42] at H ⊢; exact H)
          have hji42w : (IntKind.i64.wrap (3 * (wrap64 ((a1.size : Int) / 3)))) = ji42 := (i64_w _).trans hji42
          by_cases c43 : 0 ≤ (ji42)
          · rw [if_pos c43] at H
            have c43b0 := eq_true c43
            have c43b1 : decide (0 ≤ (ji42)) = true := decide_eq_true c43
            clear c43
            by_cases c44 : (ji42) ≤ (a1.size : Int)
            · rw [if_pos c44] at H
              have c44b0 := eq_true c44
              have c44b1 : decide ((ji42) ≤ (a1.size : Int)) = true := decide_eq_true c44
              clear c44
              have H' := Aside0.mk H
              clear H
              go_wp2
              repeat (go_quiet (fail); try go_wp2)
              go_meet
              case rel => exact ⟨_, (a1.extract ((ji42) : Int).toNat a1.size), (by first | rfl | (simp; done) | (simp only [← hji42] <;> (first | rfl | simp)) | (simp [*]; done)), (by first | exact H' | (simp only [hji42]; exact H') | (simp only [hji42] at *; exact H')), ⟨by have := HK1.out; first | omega | exact Nat.le_refl _⟩, ⟨by (with_reducible repeat (first | apply Kd.B_alloc | apply Kd.B_drewN | apply Kd.B_drew)); exact HO_5.out⟩, ⟨by repeat (first | (with_reducible first | exact HB.out | apply below_alloc | apply pw_below_drewN | apply below_drew1) | exact HB.out)⟩⟩
            · rw [if_neg c44] at H
              exact absurd H (by simp)
          · rw [if_neg c43] at H
            exact absurd H (by simp)
        case rest =>
          clear HC41
          try clear c1
          try clear p1
          try clear q1
          try clear hx1
          try clear c2
          try clear p2
          try clear q2
          try clear hx2
          try clear c3
          try clear p3
          try clear q3
          try clear hx3
          try clear c4
          try clear c4b0
          try clear c6
          try clear c6b0
          try clear p6
          try clear c7
          try clear c7b0
          try clear p8
          try clear q8
          try clear hx8
          try clear c10
          try clear c10b0
          try clear c11
          try clear c11b0
          try clear p12
          try clear q12
          try clear hx12
          try clear c14
          try clear c14b0
          try clear c15
          try clear c15b0
          try clear p16
          try clear q16
          try clear hx16
          try clear c18
          try clear c18b0
          try clear c19
          try clear c19b0
          try clear p20
          try clear q20
          try clear hx20
          try clear c21
          try clear c23
          try clear c23b0
          try clear c24
          try clear c24b0
          try clear p25
          try clear q25
          try clear hx25
          try clear c26
          try clear c28
          try clear c28b0
          try clear c29
          try clear c29b0
          try clear p30
          try clear q30
          try clear hx30
          try clear c31
          try clear c33
          try clear c33b0
          try clear c34
          try clear c34b0
          try clear p35
          try clear q35
          try clear hx35
          try clear c36
          try clear c43
          try clear c43b0
          try clear c43b1
          try clear c44
          try clear c44b0
          try clear c44b1
          try clear p12
          try clear p16
          try clear p2
          try clear p20
          try clear p25
          try clear p30
          try clear p35
          try clear p8
          try clear q12
          try clear q16
          try clear q20
          try clear q25
          try clear q30
          try clear q35
          try clear q8
          obtain ⟨kq, x9_40, rfl, HA, HJ40, HO_5, HB⟩ := hcut
          cases kq with
          | zero => exact absurd HA.out (by simp [radix_write.j1])
          | succ kj40 =>
            have H := HA.out
            clear HA
            simp only [radix_write.j1] at H
            have HC45 := Aside0.mk H
            clear H
            go_upto_block 2 with (fail)
            repeat (go_quiet (fail); go_upto_block 2 with (fail))
            go_cut [10] (fun v10 wc => ∃ (kq : Nat) (x5_44 : List Int) (x10_44 : Int), v10 = .int .u32 x10_44 ∧ Aside0 (radix_write.j2 kq a0 x5_44 x9_40 x10_44 = some r) ∧ Aside0 (kq ≤ kj40) ∧ Aside0 (Kd.B (Kd.int .u8) 72 wc w.heap.size (fun _ => True) (.pointer (some ⟨gb112, 0, none⟩)) x5_44) ∧ Aside0 (Below w.heap.size w wc))
            case first =>
              have H := HC45.out
              clear HC45
              by_cases c46 : (x9_40.size : Int) = 2
              · rw [if_pos c46] at H
                have c46b0 : ((x9_40.size : Int) == 2) = true := beq_iff_eq.mpr c46
                have c46b1 : ((x9_40.size : Int) != 2) = false := bne_eq_false_iff_eq.mpr c46
                clear c46
                (first | rw [c46b0] | (simp only [i64_w, i32_w]; rw [c46b0]) | skip)
                by_cases c47 : 1 < (x9_40.size : Int)
                · rw [if_pos c47] at H
                  have c47b0 : decide (1 < (x9_40.size : Int)) = true := decide_eq_true c47
                  have c47b1 : decide (1 < x9_40.size) = true := decide_eq_true (by omega)
                  clear c47
                  by_cases c49 : 0 < (x9_40.size : Int)
                  · rw [if_pos c49] at H
                    have c49b0 : decide (0 < (x9_40.size : Int)) = true := decide_eq_true c49
                    have c49b1 : decide (0 < x9_40.size) = true := decide_eq_true (by omega)
                    clear c49
                    obtain ⟨ji51, hji51⟩ : ∃ j_ : Int, ((Go.bits .or .u32 ((((bt x9_40 1) % 4294967296) * 256) % 4294967296) ((((bt x9_40 0) % 4294967296) * 65536) % 4294967296)) / 262144) = j_ := ⟨_, rfl⟩
                    replace H : (if 0 ≤ (ji51) then (if (ji51) < (a0.size : Int) then (if x5_1.length < 140737488355328 then ((some (x5_1 ++ [bt a0 (ji51)] : List Int)).bind fun y122 => (if 0 ≤ (Go.bits .and .u32 ((Go.bits .or .u32 ((((bt x9_40 1) % 4294967296) * 256) % 4294967296) ((((bt x9_40 0) % 4294967296) * 65536) % 4294967296)) / 4096) 63) then (if (Go.bits .and .u32 ((Go.bits .or .u32 ((((bt x9_40 1) % 4294967296) * 256) % 4294967296) ((((bt x9_40 0) % 4294967296) * 65536) % 4294967296)) / 4096) 63) < (a0.size : Int) then (if y122.length < 140737488355328 then (radix_write.j2 kj40 a0 (y122 ++ [bt a0 (Go.bits .and .u32 ((Go.bits .or .u32 ((((bt x9_40 1) % 4294967296) * 256) % 4294967296) ((((bt x9_40 0) % 4294967296) * 65536) % 4294967296)) / 4096) 63)]) x9_40 (Go.bits .or .u32 ((((bt x9_40 1) % 4294967296) * 256) % 4294967296) ((((bt x9_40 0) % 4294967296) * 65536) % 4294967296))) else (none)) else (none)) else (none))) else (none)) else (none)) else (none)) = some r := by first | (rw [hji51] at H; exact H) | (simp only [hji51] at H ⊢; exact H)
                    by_cases c52 : 0 ≤ (ji51)
                    · rw [if_pos c52] at H
                      have c52b0 : decide (0 ≤ (ji51)) = true := decide_eq_true c52
                      clear c52
                      by_cases c53 : (ji51) < (a0.size : Int)
                      · rw [if_pos c53] at H
                        have c53b0 : decide ((ji51) < (a0.size : Int)) = true := decide_eq_true c53
                        clear c53
                        by_cases c55 : x5_1.length < 140737488355328
                        · rw [if_pos c55] at H
                          have LMc55 := Aside0.mk c55
                          clear c55
                          obtain ⟨y122, hy122⟩ : ∃ y_ : List Int, y_ = (x5_1 ++ [bt a0 (ji51)]) := ⟨_, rfl⟩
                          replace H : (if 0 ≤ (Go.bits .and .u32 ((Go.bits .or .u32 ((((bt x9_40 1) % 4294967296) * 256) % 4294967296) ((((bt x9_40 0) % 4294967296) * 65536) % 4294967296)) / 4096) 63) then (if (Go.bits .and .u32 ((Go.bits .or .u32 ((((bt x9_40 1) % 4294967296) * 256) % 4294967296) ((((bt x9_40 0) % 4294967296) * 65536) % 4294967296)) / 4096) 63) < (a0.size : Int) then (if y122.length < 140737488355328 then (radix_write.j2 kj40 a0 (y122 ++ [bt a0 (Go.bits .and .u32 ((Go.bits .or .u32 ((((bt x9_40 1) % 4294967296) * 256) % 4294967296) ((((bt x9_40 0) % 4294967296) * 65536) % 4294967296)) / 4096) 63)]) x9_40 (Go.bits .or .u32 ((((bt x9_40 1) % 4294967296) * 256) % 4294967296) ((((bt x9_40 0) % 4294967296) * 65536) % 4294967296))) else (none)) else (none)) else (none)) = some r := by first | (rw [hy122]; with_reducible exact H) | (have H2_ := (Option.bind_some _ _).symm.trans H; rw [hy122]; with_reducible exact H2_) | (have H2_ := (Option.bind_some _ _).symm.trans H; with_reducible exact H2_) | with_reducible exact H | (rw [hy122]; exact H) | exact H
                          have Ny122 := Aside0.mk hy122
                          clear hy122
                          obtain ⟨ji56, hji56⟩ : ∃ j_ : Int, (Go.bits .and .u32 ((Go.bits .or .u32 ((((bt x9_40 1) % 4294967296) * 256) % 4294967296) ((((bt x9_40 0) % 4294967296) * 65536) % 4294967296)) / 4096) 63) = j_ := ⟨_, rfl⟩
                          replace H : (if 0 ≤ (ji56) then (if (ji56) < (a0.size : Int) then (if y122.length < 140737488355328 then (radix_write.j2 kj40 a0 (y122 ++ [bt a0 (ji56)]) x9_40 (Go.bits .or .u32 ((((bt x9_40 1) % 4294967296) * 256) % 4294967296) ((((bt x9_40 0) % 4294967296) * 65536) % 4294967296))) else (none)) else (none)) else (none)) = some r := by first | (rw [hji56] at H; exact H) | (simp only [hji56] at H ⊢; exact H)
                          by_cases c57 : 0 ≤ (ji56)
                          · rw [if_pos c57] at H
                            have c57b0 : decide (0 ≤ (ji56)) = true := decide_eq_true c57
                            clear c57
                            by_cases c58 : (ji56) < (a0.size : Int)
                            · rw [if_pos c58] at H
                              have c58b0 : decide ((ji56) < (a0.size : Int)) = true := decide_eq_true c58
                              clear c58
                              by_cases c60 : y122.length < 140737488355328
                              · rw [if_pos c60] at H
                                have LMc60 := Aside0.mk c60
                                clear c60
                                obtain ⟨y124, hy124⟩ : ∃ y_ : List Int, y_ = (y122 ++ [bt a0 (ji56)]) := ⟨_, rfl⟩
                                replace H : (radix_write.j2 kj40 a0 y124 x9_40 (Go.bits .or .u32 ((((bt x9_40 1) % 4294967296) * 256) % 4294967296) ((((bt x9_40 0) % 4294967296) * 65536) % 4294967296))) = some r := by first | (rw [hy124]; with_reducible exact H) | (have H2_ := (Option.bind_some _ _).symm.trans H; rw [hy124]; with_reducible exact H2_) | (have H2_ := (Option.bind_some _ _).symm.trans H; with_reducible exact H2_) | with_reducible exact H | (rw [hy124]; exact H) | exact H
                                have Ny124 := Aside0.mk hy124
                                clear hy124
                                have H' := Aside0.mk H
                                clear H
                                have p48 : 0 ≤ (1 : Int) := (by omega)
                                have q48 : 1 < x9_40.size := (by have : (1 : Int) < (x9_40.size : Int) := of_decide_eq_true (by first | (with_reducible assumption) | assumption); omega)
                                have hx48 : ∀ h : 1 < x9_40.size, ((x9_40[1]'h).toNat : Int) = bt x9_40 1 := bt_at x9_40 1
                                clear p48
                                have qi48 : (1 < (x9_40.size : Int)) = True := eq_true (of_decide_eq_true (by first | (with_reducible assumption) | assumption))
                                replace q48 := eq_true q48
                                have p50 : 0 ≤ (0 : Int) := (by omega)
                                have q50 : 0 < x9_40.size := (by have : (0 : Int) < (x9_40.size : Int) := of_decide_eq_true (by first | (with_reducible assumption) | assumption); omega)
                                have hx50 : ∀ h : 0 < x9_40.size, ((x9_40[0]'h).toNat : Int) = bt x9_40 0 := bt_at x9_40 0
                                clear p50
                                have qi50 : (0 < (x9_40.size : Int)) = True := eq_true (of_decide_eq_true (by first | (with_reducible assumption) | assumption))
                                replace q50 := eq_true q50
                                have p54 : 0 ≤ ((ji51) : Int) := of_decide_eq_true (by first | (with_reducible assumption) | assumption)
                                have q54 : (ji51) < (a0.size : Int) := of_decide_eq_true (by first | (with_reducible assumption) | assumption)
                                have hx54 := bt_at a0 (ji51)
                                replace p54 := eq_true p54
                                replace q54 := eq_true q54
                                go_wp2_with (first | ((with_reducible refine gate_callee (f := 73) rfl ?_); refine goesL_ (some 86) rfl rfl Tryd.func73 (by kernel_rfl) rfl #[.pointer (some ⟨gb112, 0, none⟩), .int .u8 (bt a0 (ji51))] rfl (by (try simp only [List.map_toArray, List.map_cons, List.map_nil]); first | done | rfl | (simp; done)) ?_; (refine (Kd.B_WriteByte (by (with_reducible repeat (first | apply Kd.B_alloc | apply Kd.B_drewN | apply Kd.B_drew)); exact HO_5.out) (bt a0 (ji51)) (by have := LMc55.out; omega) (by first | exact bt_range _ _ | (constructor <;> decide) | exact mod_range _ | omega)).mono ?_); rintro e w61 ⟨rfl, ho, hk⟩; refine ⟨_, rfl, ?_⟩; rw [← Ny122.out] at ho; have n0_ := Aside0.mk (Below.trans (by repeat (first | (with_reducible first | exact HB.out | apply below_alloc | apply pw_below_drewN | apply below_drew1) | exact HB.out)) hk.below); have n1_ := Aside0.mk (ho); clear HB; clear HO_5; have HB := n0_; have HO123 := n1_; clear n0_ n1_; clear ho hk; have p59 : 0 ≤ ((ji56) : Int) := of_decide_eq_true (by first | (with_reducible assumption) | assumption); have q59 : (ji56) < (a0.size : Int) := of_decide_eq_true (by first | (with_reducible assumption) | assumption); have hx59 := bt_at a0 (ji56); replace p59 := eq_true p59; replace q59 := eq_true q59) | ((with_reducible refine gate_callee (f := 73) rfl ?_); refine goesL_ (some 92) rfl rfl Tryd.func73 (by kernel_rfl) rfl #[.pointer (some ⟨gb112, 0, none⟩), .int .u8 (bt a0 (ji56))] rfl (by (try simp only [List.map_toArray, List.map_cons, List.map_nil]); first | done | rfl | (simp; done)) ?_; (refine (Kd.B_WriteByte (by (with_reducible repeat (first | apply Kd.B_alloc | apply Kd.B_drewN | apply Kd.B_drew)); exact HO123.out) (bt a0 (ji56)) (by have := LMc60.out; omega) (by first | exact bt_range _ _ | (constructor <;> decide) | exact mod_range _ | omega)).mono ?_); rintro e w62 ⟨rfl, ho, hk⟩; refine ⟨_, rfl, ?_⟩; rw [← Ny124.out] at ho; have n0_ := Aside0.mk (Below.trans (by repeat (first | (with_reducible first | exact HB.out | apply below_alloc | apply pw_below_drewN | apply below_drew1) | exact HB.out)) hk.below); have n1_ := Aside0.mk (ho); clear HB; clear HO123; have HB := n0_; have HO125 := n1_; clear n0_ n1_; clear ho hk))
                                repeat (go_quiet (first | ((with_reducible refine gate_callee (f := 73) rfl ?_); refine goesL_ (some 86) rfl rfl Tryd.func73 (by kernel_rfl) rfl #[.pointer (some ⟨gb112, 0, none⟩), .int .u8 (bt a0 (ji51))] rfl (by (try simp only [List.map_toArray, List.map_cons, List.map_nil]); first | done | rfl | (simp; done)) ?_; (refine (Kd.B_WriteByte (by (with_reducible repeat (first | apply Kd.B_alloc | apply Kd.B_drewN | apply Kd.B_drew)); exact HO_5.out) (bt a0 (ji51)) (by have := LMc55.out; omega) (by first | exact bt_range _ _ | (constructor <;> decide) | exact mod_range _ | omega)).mono ?_); rintro e w61 ⟨rfl, ho, hk⟩; refine ⟨_, rfl, ?_⟩; rw [← Ny122.out] at ho; have n0_ := Aside0.mk (Below.trans (by repeat (first | (with_reducible first | exact HB.out | apply below_alloc | apply pw_below_drewN | apply below_drew1) | exact HB.out)) hk.below); have n1_ := Aside0.mk (ho); clear HB; clear HO_5; have HB := n0_; have HO123 := n1_; clear n0_ n1_; clear ho hk; have p59 : 0 ≤ ((ji56) : Int) := of_decide_eq_true (by first | (with_reducible assumption) | assumption); have q59 : (ji56) < (a0.size : Int) := of_decide_eq_true (by first | (with_reducible assumption) | assumption); have hx59 := bt_at a0 (ji56); replace p59 := eq_true p59; replace q59 := eq_true q59) | ((with_reducible refine gate_callee (f := 73) rfl ?_); refine goesL_ (some 92) rfl rfl Tryd.func73 (by kernel_rfl) rfl #[.pointer (some ⟨gb112, 0, none⟩), .int .u8 (bt a0 (ji56))] rfl (by (try simp only [List.map_toArray, List.map_cons, List.map_nil]); first | done | rfl | (simp; done)) ?_; (refine (Kd.B_WriteByte (by (with_reducible repeat (first | apply Kd.B_alloc | apply Kd.B_drewN | apply Kd.B_drew)); exact HO123.out) (bt a0 (ji56)) (by have := LMc60.out; omega) (by first | exact bt_range _ _ | (constructor <;> decide) | exact mod_range _ | omega)).mono ?_); rintro e w62 ⟨rfl, ho, hk⟩; refine ⟨_, rfl, ?_⟩; rw [← Ny124.out] at ho; have n0_ := Aside0.mk (Below.trans (by repeat (first | (with_reducible first | exact HB.out | apply below_alloc | apply pw_below_drewN | apply below_drew1) | exact HB.out)) hk.below); have n1_ := Aside0.mk (ho); clear HB; clear HO123; have HB := n0_; have HO125 := n1_; clear n0_ n1_; clear ho hk)); try go_wp2_with (first | ((with_reducible refine gate_callee (f := 73) rfl ?_); refine goesL_ (some 86) rfl rfl Tryd.func73 (by kernel_rfl) rfl #[.pointer (some ⟨gb112, 0, none⟩), .int .u8 (bt a0 (ji51))] rfl (by (try simp only [List.map_toArray, List.map_cons, List.map_nil]); first | done | rfl | (simp; done)) ?_; (refine (Kd.B_WriteByte (by (with_reducible repeat (first | apply Kd.B_alloc | apply Kd.B_drewN | apply Kd.B_drew)); exact HO_5.out) (bt a0 (ji51)) (by have := LMc55.out; omega) (by first | exact bt_range _ _ | (constructor <;> decide) | exact mod_range _ | omega)).mono ?_); rintro e w61 ⟨rfl, ho, hk⟩; refine ⟨_, rfl, ?_⟩; rw [← Ny122.out] at ho; have n0_ := Aside0.mk (Below.trans (by repeat (first | (with_reducible first | exact HB.out | apply below_alloc | apply pw_below_drewN | apply below_drew1) | exact HB.out)) hk.below); have n1_ := Aside0.mk (ho); clear HB; clear HO_5; have HB := n0_; have HO123 := n1_; clear n0_ n1_; clear ho hk; have p59 : 0 ≤ ((ji56) : Int) := of_decide_eq_true (by first | (with_reducible assumption) | assumption); have q59 : (ji56) < (a0.size : Int) := of_decide_eq_true (by first | (with_reducible assumption) | assumption); have hx59 := bt_at a0 (ji56); replace p59 := eq_true p59; replace q59 := eq_true q59) | ((with_reducible refine gate_callee (f := 73) rfl ?_); refine goesL_ (some 92) rfl rfl Tryd.func73 (by kernel_rfl) rfl #[.pointer (some ⟨gb112, 0, none⟩), .int .u8 (bt a0 (ji56))] rfl (by (try simp only [List.map_toArray, List.map_cons, List.map_nil]); first | done | rfl | (simp; done)) ?_; (refine (Kd.B_WriteByte (by (with_reducible repeat (first | apply Kd.B_alloc | apply Kd.B_drewN | apply Kd.B_drew)); exact HO123.out) (bt a0 (ji56)) (by have := LMc60.out; omega) (by first | exact bt_range _ _ | (constructor <;> decide) | exact mod_range _ | omega)).mono ?_); rintro e w62 ⟨rfl, ho, hk⟩; refine ⟨_, rfl, ?_⟩; rw [← Ny124.out] at ho; have n0_ := Aside0.mk (Below.trans (by repeat (first | (with_reducible first | exact HB.out | apply below_alloc | apply pw_below_drewN | apply below_drew1) | exact HB.out)) hk.below); have n1_ := Aside0.mk (ho); clear HB; clear HO123; have HB := n0_; have HO125 := n1_; clear n0_ n1_; clear ho hk)))
                                go_meet
                                case rel => exact ⟨_, (y124), (Go.bits .or .u32 ((((bt x9_40 1) % 4294967296) * 256) % 4294967296) ((((bt x9_40 0) % 4294967296) * 65536) % 4294967296)), (by first | rfl | (simp; done) | (simp [*]; done)), H', ⟨by have := HK1.out; have := HJ40.out; first | omega | exact Nat.le_refl _⟩, ⟨by (with_reducible repeat (first | apply Kd.B_alloc | apply Kd.B_drewN | apply Kd.B_drew)); exact HO125.out⟩, ⟨by repeat (first | (with_reducible first | exact HB.out | apply below_alloc | apply pw_below_drewN | apply below_drew1) | exact HB.out)⟩⟩
                              · rw [if_neg c60] at H
                                exact absurd H (by simp)
                            · rw [if_neg c58] at H
                              exact absurd H (by simp)
                          · rw [if_neg c57] at H
                            exact absurd H (by simp)
                        · rw [if_neg c55] at H
                          exact absurd H (by simp)
                      · rw [if_neg c53] at H
                        exact absurd H (by simp)
                    · rw [if_neg c52] at H
                      exact absurd H (by simp)
                  · rw [if_neg c49] at H
                    exact absurd H (by simp)
                · rw [if_neg c47] at H
                  exact absurd H (by simp)
              · rw [if_neg c46] at H
                have c46b0 : ((x9_40.size : Int) == 2) = false := beq_eq_false_iff_ne.mpr c46
                have c46b1 : ((x9_40.size : Int) != 2) = true := bne_iff_ne.mpr c46
                (first | rw [c46b0] | (simp only [i64_w, i32_w]; rw [c46b0]) | skip)
                by_cases c63 : (x9_40.size : Int) = 1
                · rw [if_pos c63] at H
                  have c63b0 : ((x9_40.size : Int) == 1) = true := beq_iff_eq.mpr c63
                  have c63b1 : ((x9_40.size : Int) != 1) = false := bne_eq_false_iff_eq.mpr c63
                  clear c63
                  by_cases c64 : 0 < (x9_40.size : Int)
                  · rw [if_pos c64] at H
                    have c64b0 : decide (0 < (x9_40.size : Int)) = true := decide_eq_true c64
                    have c64b1 : decide (0 < x9_40.size) = true := decide_eq_true (by omega)
                    clear c64
                    obtain ⟨ji66, hji66⟩ : ∃ j_ : Int, ((Go.bits .or .u32 0 ((((bt x9_40 0) % 4294967296) * 65536) % 4294967296)) / 262144) = j_ := ⟨_, rfl⟩
                    replace H : (if 0 ≤ (ji66) then (if (ji66) < (a0.size : Int) then (if x5_1.length < 140737488355328 then ((some (x5_1 ++ [bt a0 (ji66)] : List Int)).bind fun y126 => (if 0 ≤ (Go.bits .and .u32 ((Go.bits .or .u32 0 ((((bt x9_40 0) % 4294967296) * 65536) % 4294967296)) / 4096) 63) then (if (Go.bits .and .u32 ((Go.bits .or .u32 0 ((((bt x9_40 0) % 4294967296) * 65536) % 4294967296)) / 4096) 63) < (a0.size : Int) then (if y126.length < 140737488355328 then (radix_write.j2 kj40 a0 (y126 ++ [bt a0 (Go.bits .and .u32 ((Go.bits .or .u32 0 ((((bt x9_40 0) % 4294967296) * 65536) % 4294967296)) / 4096) 63)]) x9_40 (Go.bits .or .u32 0 ((((bt x9_40 0) % 4294967296) * 65536) % 4294967296))) else (none)) else (none)) else (none))) else (none)) else (none)) else (none)) = some r := by first | (rw [hji66] at H; exact H) | (simp only [hji66] at H ⊢; exact H)
                    by_cases c67 : 0 ≤ (ji66)
                    · rw [if_pos c67] at H
                      have c67b0 : decide (0 ≤ (ji66)) = true := decide_eq_true c67
                      clear c67
                      by_cases c68 : (ji66) < (a0.size : Int)
                      · rw [if_pos c68] at H
                        have c68b0 : decide ((ji66) < (a0.size : Int)) = true := decide_eq_true c68
                        clear c68
                        by_cases c70 : x5_1.length < 140737488355328
                        · rw [if_pos c70] at H
                          have LMc70 := Aside0.mk c70
                          clear c70
                          obtain ⟨y126, hy126⟩ : ∃ y_ : List Int, y_ = (x5_1 ++ [bt a0 (ji66)]) := ⟨_, rfl⟩
                          replace H : (if 0 ≤ (Go.bits .and .u32 ((Go.bits .or .u32 0 ((((bt x9_40 0) % 4294967296) * 65536) % 4294967296)) / 4096) 63) then (if (Go.bits .and .u32 ((Go.bits .or .u32 0 ((((bt x9_40 0) % 4294967296) * 65536) % 4294967296)) / 4096) 63) < (a0.size : Int) then (if y126.length < 140737488355328 then (radix_write.j2 kj40 a0 (y126 ++ [bt a0 (Go.bits .and .u32 ((Go.bits .or .u32 0 ((((bt x9_40 0) % 4294967296) * 65536) % 4294967296)) / 4096) 63)]) x9_40 (Go.bits .or .u32 0 ((((bt x9_40 0) % 4294967296) * 65536) % 4294967296))) else (none)) else (none)) else (none)) = some r := by first | (rw [hy126]; with_reducible exact H) | (have H2_ := (Option.bind_some _ _).symm.trans H; rw [hy126]; with_reducible exact H2_) | (have H2_ := (Option.bind_some _ _).symm.trans H; with_reducible exact H2_) | with_reducible exact H | (rw [hy126]; exact H) | exact H
                          have Ny126 := Aside0.mk hy126
                          clear hy126
                          obtain ⟨ji71, hji71⟩ : ∃ j_ : Int, (Go.bits .and .u32 ((Go.bits .or .u32 0 ((((bt x9_40 0) % 4294967296) * 65536) % 4294967296)) / 4096) 63) = j_ := ⟨_, rfl⟩
                          replace H : (if 0 ≤ (ji71) then (if (ji71) < (a0.size : Int) then (if y126.length < 140737488355328 then (radix_write.j2 kj40 a0 (y126 ++ [bt a0 (ji71)]) x9_40 (Go.bits .or .u32 0 ((((bt x9_40 0) % 4294967296) * 65536) % 4294967296))) else (none)) else (none)) else (none)) = some r := by first | (rw [hji71] at H; exact H) | (simp only [hji71] at H ⊢; exact H)
                          by_cases c72 : 0 ≤ (ji71)
                          · rw [if_pos c72] at H
                            have c72b0 : decide (0 ≤ (ji71)) = true := decide_eq_true c72
                            clear c72
                            by_cases c73 : (ji71) < (a0.size : Int)
                            · rw [if_pos c73] at H
                              have c73b0 : decide ((ji71) < (a0.size : Int)) = true := decide_eq_true c73
                              clear c73
                              by_cases c75 : y126.length < 140737488355328
                              · rw [if_pos c75] at H
                                have LMc75 := Aside0.mk c75
                                clear c75
                                obtain ⟨y128, hy128⟩ : ∃ y_ : List Int, y_ = (y126 ++ [bt a0 (ji71)]) := ⟨_, rfl⟩
                                replace H : (radix_write.j2 kj40 a0 y128 x9_40 (Go.bits .or .u32 0 ((((bt x9_40 0) % 4294967296) * 65536) % 4294967296))) = some r := by first | (rw [hy128]; with_reducible exact H) | (have H2_ := (Option.bind_some _ _).symm.trans H; rw [hy128]; with_reducible exact H2_) | (have H2_ := (Option.bind_some _ _).symm.trans H; with_reducible exact H2_) | with_reducible exact H | (rw [hy128]; exact H) | exact H
                                have Ny128 := Aside0.mk hy128
                                clear hy128
                                have H' := Aside0.mk H
                                clear H
                                have p65 : 0 ≤ (0 : Int) := (by omega)
                                have q65 : 0 < x9_40.size := (by have : (0 : Int) < (x9_40.size : Int) := of_decide_eq_true (by first | (with_reducible assumption) | assumption); omega)
                                have hx65 : ∀ h : 0 < x9_40.size, ((x9_40[0]'h).toNat : Int) = bt x9_40 0 := bt_at x9_40 0
                                clear p65
                                have qi65 : (0 < (x9_40.size : Int)) = True := eq_true (of_decide_eq_true (by first | (with_reducible assumption) | assumption))
                                replace q65 := eq_true q65
                                have p69 : 0 ≤ ((ji66) : Int) := of_decide_eq_true (by first | (with_reducible assumption) | assumption)
                                have q69 : (ji66) < (a0.size : Int) := of_decide_eq_true (by first | (with_reducible assumption) | assumption)
                                have hx69 := bt_at a0 (ji66)
                                replace p69 := eq_true p69
                                replace q69 := eq_true q69
                                go_wp2_with (first | ((with_reducible refine gate_callee (f := 73) rfl ?_); refine goesL_ (some 86) rfl rfl Tryd.func73 (by kernel_rfl) rfl #[.pointer (some ⟨gb112, 0, none⟩), .int .u8 (bt a0 (ji66))] rfl (by (try simp only [List.map_toArray, List.map_cons, List.map_nil]); first | done | rfl | (simp; done)) ?_; (refine (Kd.B_WriteByte (by (with_reducible repeat (first | apply Kd.B_alloc | apply Kd.B_drewN | apply Kd.B_drew)); exact HO_5.out) (bt a0 (ji66)) (by have := LMc70.out; omega) (by first | exact bt_range _ _ | (constructor <;> decide) | exact mod_range _ | omega)).mono ?_); rintro e w76 ⟨rfl, ho, hk⟩; refine ⟨_, rfl, ?_⟩; rw [← Ny126.out] at ho; have n0_ := Aside0.mk (Below.trans (by repeat (first | (with_reducible first | exact HB.out | apply below_alloc | apply pw_below_drewN | apply below_drew1) | exact HB.out)) hk.below); have n1_ := Aside0.mk (ho); clear HB; clear HO_5; have HB := n0_; have HO127 := n1_; clear n0_ n1_; clear ho hk; have p74 : 0 ≤ ((ji71) : Int) := of_decide_eq_true (by first | (with_reducible assumption) | assumption); have q74 : (ji71) < (a0.size : Int) := of_decide_eq_true (by first | (with_reducible assumption) | assumption); have hx74 := bt_at a0 (ji71); replace p74 := eq_true p74; replace q74 := eq_true q74) | ((with_reducible refine gate_callee (f := 73) rfl ?_); refine goesL_ (some 92) rfl rfl Tryd.func73 (by kernel_rfl) rfl #[.pointer (some ⟨gb112, 0, none⟩), .int .u8 (bt a0 (ji71))] rfl (by (try simp only [List.map_toArray, List.map_cons, List.map_nil]); first | done | rfl | (simp; done)) ?_; (refine (Kd.B_WriteByte (by (with_reducible repeat (first | apply Kd.B_alloc | apply Kd.B_drewN | apply Kd.B_drew)); exact HO127.out) (bt a0 (ji71)) (by have := LMc75.out; omega) (by first | exact bt_range _ _ | (constructor <;> decide) | exact mod_range _ | omega)).mono ?_); rintro e w77 ⟨rfl, ho, hk⟩; refine ⟨_, rfl, ?_⟩; rw [← Ny128.out] at ho; have n0_ := Aside0.mk (Below.trans (by repeat (first | (with_reducible first | exact HB.out | apply below_alloc | apply pw_below_drewN | apply below_drew1) | exact HB.out)) hk.below); have n1_ := Aside0.mk (ho); clear HB; clear HO127; have HB := n0_; have HO129 := n1_; clear n0_ n1_; clear ho hk))
                                repeat (go_quiet (first | ((with_reducible refine gate_callee (f := 73) rfl ?_); refine goesL_ (some 86) rfl rfl Tryd.func73 (by kernel_rfl) rfl #[.pointer (some ⟨gb112, 0, none⟩), .int .u8 (bt a0 (ji66))] rfl (by (try simp only [List.map_toArray, List.map_cons, List.map_nil]); first | done | rfl | (simp; done)) ?_; (refine (Kd.B_WriteByte (by (with_reducible repeat (first | apply Kd.B_alloc | apply Kd.B_drewN | apply Kd.B_drew)); exact HO_5.out) (bt a0 (ji66)) (by have := LMc70.out; omega) (by first | exact bt_range _ _ | (constructor <;> decide) | exact mod_range _ | omega)).mono ?_); rintro e w76 ⟨rfl, ho, hk⟩; refine ⟨_, rfl, ?_⟩; rw [← Ny126.out] at ho; have n0_ := Aside0.mk (Below.trans (by repeat (first | (with_reducible first | exact HB.out | apply below_alloc | apply pw_below_drewN | apply below_drew1) | exact HB.out)) hk.below); have n1_ := Aside0.mk (ho); clear HB; clear HO_5; have HB := n0_; have HO127 := n1_; clear n0_ n1_; clear ho hk; have p74 : 0 ≤ ((ji71) : Int) := of_decide_eq_true (by first | (with_reducible assumption) | assumption); have q74 : (ji71) < (a0.size : Int) := of_decide_eq_true (by first | (with_reducible assumption) | assumption); have hx74 := bt_at a0 (ji71); replace p74 := eq_true p74; replace q74 := eq_true q74) | ((with_reducible refine gate_callee (f := 73) rfl ?_); refine goesL_ (some 92) rfl rfl Tryd.func73 (by kernel_rfl) rfl #[.pointer (some ⟨gb112, 0, none⟩), .int .u8 (bt a0 (ji71))] rfl (by (try simp only [List.map_toArray, List.map_cons, List.map_nil]); first | done | rfl | (simp; done)) ?_; (refine (Kd.B_WriteByte (by (with_reducible repeat (first | apply Kd.B_alloc | apply Kd.B_drewN | apply Kd.B_drew)); exact HO127.out) (bt a0 (ji71)) (by have := LMc75.out; omega) (by first | exact bt_range _ _ | (constructor <;> decide) | exact mod_range _ | omega)).mono ?_); rintro e w77 ⟨rfl, ho, hk⟩; refine ⟨_, rfl, ?_⟩; rw [← Ny128.out] at ho; have n0_ := Aside0.mk (Below.trans (by repeat (first | (with_reducible first | exact HB.out | apply below_alloc | apply pw_below_drewN | apply below_drew1) | exact HB.out)) hk.below); have n1_ := Aside0.mk (ho); clear HB; clear HO127; have HB := n0_; have HO129 := n1_; clear n0_ n1_; clear ho hk)); try go_wp2_with (first | ((with_reducible refine gate_callee (f := 73) rfl ?_); refine goesL_ (some 86) rfl rfl Tryd.func73 (by kernel_rfl) rfl #[.pointer (some ⟨gb112, 0, none⟩), .int .u8 (bt a0 (ji66))] rfl (by (try simp only [List.map_toArray, List.map_cons, List.map_nil]); first | done | rfl | (simp; done)) ?_; (refine (Kd.B_WriteByte (by (with_reducible repeat (first | apply Kd.B_alloc | apply Kd.B_drewN | apply Kd.B_drew)); exact HO_5.out) (bt a0 (ji66)) (by have := LMc70.out; omega) (by first | exact bt_range _ _ | (constructor <;> decide) | exact mod_range _ | omega)).mono ?_); rintro e w76 ⟨rfl, ho, hk⟩; refine ⟨_, rfl, ?_⟩; rw [← Ny126.out] at ho; have n0_ := Aside0.mk (Below.trans (by repeat (first | (with_reducible first | exact HB.out | apply below_alloc | apply pw_below_drewN | apply below_drew1) | exact HB.out)) hk.below); have n1_ := Aside0.mk (ho); clear HB; clear HO_5; have HB := n0_; have HO127 := n1_; clear n0_ n1_; clear ho hk; have p74 : 0 ≤ ((ji71) : Int) := of_decide_eq_true (by first | (with_reducible assumption) | assumption); have q74 : (ji71) < (a0.size : Int) := of_decide_eq_true (by first | (with_reducible assumption) | assumption); have hx74 := bt_at a0 (ji71); replace p74 := eq_true p74; replace q74 := eq_true q74) | ((with_reducible refine gate_callee (f := 73) rfl ?_); refine goesL_ (some 92) rfl rfl Tryd.func73 (by kernel_rfl) rfl #[.pointer (some ⟨gb112, 0, none⟩), .int .u8 (bt a0 (ji71))] rfl (by (try simp only [List.map_toArray, List.map_cons, List.map_nil]); first | done | rfl | (simp; done)) ?_; (refine (Kd.B_WriteByte (by (with_reducible repeat (first | apply Kd.B_alloc | apply Kd.B_drewN | apply Kd.B_drew)); exact HO127.out) (bt a0 (ji71)) (by have := LMc75.out; omega) (by first | exact bt_range _ _ | (constructor <;> decide) | exact mod_range _ | omega)).mono ?_); rintro e w77 ⟨rfl, ho, hk⟩; refine ⟨_, rfl, ?_⟩; rw [← Ny128.out] at ho; have n0_ := Aside0.mk (Below.trans (by repeat (first | (with_reducible first | exact HB.out | apply below_alloc | apply pw_below_drewN | apply below_drew1) | exact HB.out)) hk.below); have n1_ := Aside0.mk (ho); clear HB; clear HO127; have HB := n0_; have HO129 := n1_; clear n0_ n1_; clear ho hk)))
                                go_meet
                                case rel => exact ⟨_, (y128), (Go.bits .or .u32 0 ((((bt x9_40 0) % 4294967296) * 65536) % 4294967296)), (by first | rfl | (simp; done) | (simp [*]; done)), H', ⟨by have := HK1.out; have := HJ40.out; first | omega | exact Nat.le_refl _⟩, ⟨by (with_reducible repeat (first | apply Kd.B_alloc | apply Kd.B_drewN | apply Kd.B_drew)); exact HO129.out⟩, ⟨by repeat (first | (with_reducible first | exact HB.out | apply below_alloc | apply pw_below_drewN | apply below_drew1) | exact HB.out)⟩⟩
                              · rw [if_neg c75] at H
                                exact absurd H (by simp)
                            · rw [if_neg c73] at H
                              exact absurd H (by simp)
                          · rw [if_neg c72] at H
                            exact absurd H (by simp)
                        · rw [if_neg c70] at H
                          exact absurd H (by simp)
                      · rw [if_neg c68] at H
                        exact absurd H (by simp)
                    · rw [if_neg c67] at H
                      exact absurd H (by simp)
                  · rw [if_neg c64] at H
                    exact absurd H (by simp)
                · rw [if_neg c63] at H
                  have c63b0 : ((x9_40.size : Int) == 1) = false := beq_eq_false_iff_ne.mpr c63
                  have c63b1 : ((x9_40.size : Int) != 1) = true := bne_iff_ne.mpr c63
                  have H' := Aside0.mk H
                  clear H
                  go_wp2
                  repeat (go_quiet (fail); try go_wp2)
                  go_meet
                  case rel => exact ⟨_, (x5_1), (0), (by first | rfl | (simp; done) | (simp [*]; done)), H', ⟨by have := HK1.out; have := HJ40.out; first | omega | exact Nat.le_refl _⟩, ⟨by (with_reducible repeat (first | apply Kd.B_alloc | apply Kd.B_drewN | apply Kd.B_drew)); exact HO_5.out⟩, ⟨by repeat (first | (with_reducible first | exact HB.out | apply below_alloc | apply pw_below_drewN | apply below_drew1) | exact HB.out)⟩⟩
            case rest =>
              clear HC45
              try clear c1
              try clear p1
              try clear q1
              try clear hx1
              try clear c2
              try clear p2
              try clear q2
              try clear hx2
              try clear c3
              try clear p3
              try clear q3
              try clear hx3
              try clear c4
              try clear c4b0
              try clear p4
              try clear q4
              try clear hx4
              try clear qi4
              try clear c5
              try clear p5
              try clear q5
              try clear hx5
              try clear qi5
              try clear c6
              try clear c6b0
              try clear p6
              try clear q6
              try clear hx6
              try clear qi6
              try clear c7
              try clear c7b0
              try clear p7
              try clear q7
              try clear hx7
              try clear p8
              try clear q8
              try clear hx8
              try clear c10
              try clear c10b0
              try clear c11
              try clear c11b0
              try clear p12
              try clear q12
              try clear hx12
              try clear c14
              try clear c14b0
              try clear c15
              try clear c15b0
              try clear p16
              try clear q16
              try clear hx16
              try clear c18
              try clear c18b0
              try clear c19
              try clear c19b0
              try clear p20
              try clear q20
              try clear hx20
              try clear c21
              try clear c23
              try clear c23b0
              try clear c24
              try clear c24b0
              try clear p25
              try clear q25
              try clear hx25
              try clear c26
              try clear c28
              try clear c28b0
              try clear c29
              try clear c29b0
              try clear p30
              try clear q30
              try clear hx30
              try clear c31
              try clear c33
              try clear c33b0
              try clear c34
              try clear c34b0
              try clear p35
              try clear q35
              try clear hx35
              try clear c36
              try clear c43
              try clear c43b0
              try clear c43b1
              try clear c44
              try clear c44b0
              try clear c44b1
              try clear c46
              try clear c46b0
              try clear c46b1
              try clear c47
              try clear c47b0
              try clear c47b1
              try clear p48
              try clear q48
              try clear hx48
              try clear qi48
              try clear c49
              try clear c49b0
              try clear c49b1
              try clear p50
              try clear q50
              try clear hx50
              try clear qi50
              try clear c52
              try clear c52b0
              try clear c53
              try clear c53b0
              try clear p54
              try clear q54
              try clear hx54
              try clear c55
              try clear c57
              try clear c57b0
              try clear c58
              try clear c58b0
              try clear p59
              try clear q59
              try clear hx59
              try clear c60
              try clear c63
              try clear c63b0
              try clear c63b1
              try clear c64
              try clear c64b0
              try clear c64b1
              try clear p64
              try clear p65
              try clear q65
              try clear hx65
              try clear qi65
              try clear c67
              try clear c67b0
              try clear c68
              try clear c68b0
              try clear p69
              try clear q69
              try clear hx69
              try clear c70
              try clear c71
              try clear c72
              try clear c72b0
              try clear c73
              try clear c73b0
              try clear p74
              try clear q74
              try clear hx74
              try clear c75
              try clear p1
              try clear p12
              try clear p16
              try clear p2
              try clear p20
              try clear p25
              try clear p3
              try clear p30
              try clear p35
              try clear p48
              try clear p50
              try clear p54
              try clear p59
              try clear p6
              try clear p65
              try clear p69
              try clear p74
              try clear p8
              try clear q1
              try clear q12
              try clear q16
              try clear q2
              try clear q20
              try clear q25
              try clear q3
              try clear q30
              try clear q35
              try clear q48
              try clear q50
              try clear q54
              try clear q59
              try clear q65
              try clear q69
              try clear q74
              try clear q8
              obtain ⟨kq, x5_44, x10_44, rfl, HA, HJ44, HO_5, HB⟩ := hcut
              cases kq with
              | zero => exact absurd HA.out (by simp [radix_write.j2])
              | succ kj44 =>
                have H := HA.out
                clear HA
                simp only [radix_write.j2] at H
                by_cases c78 : (x9_40.size : Int) = 2
                · rw [if_pos c78] at H
                  have c78b0 : ((x9_40.size : Int) == 2) = true := beq_iff_eq.mpr c78
                  have c78b1 : ((x9_40.size : Int) != 2) = false := bne_eq_false_iff_eq.mpr c78
                  clear c78
                  obtain ⟨ji79, hji79⟩ : ∃ j_ : Int, (Go.bits .and .u32 (x10_44 / 64) 63) = j_ := ⟨_, rfl⟩
                  replace H : (if 0 ≤ (ji79) then (if (ji79) < (a0.size : Int) then (if x5_44.length < 140737488355328 then (some (strOfNums (x5_44 ++ [bt a0 (ji79)]))) else (none)) else (none)) else (none)) = some r := by first | (rw [hji79] at H; exact H) | (simp only [hji79] at H ⊢; exact H)
                  by_cases c80 : 0 ≤ (ji79)
                  · rw [if_pos c80] at H
                    have c80b0 : decide (0 ≤ (ji79)) = true := decide_eq_true c80
                    clear c80
                    by_cases c81 : (ji79) < (a0.size : Int)
                    · rw [if_pos c81] at H
                      have c81b0 : decide ((ji79) < (a0.size : Int)) = true := decide_eq_true c81
                      clear c81
                      by_cases c83 : x5_44.length < 140737488355328
                      · rw [if_pos c83] at H
                        have LMc83 := Aside0.mk c83
                        clear c83
                        obtain ⟨y130, hy130⟩ : ∃ y_ : List Int, y_ = (x5_44 ++ [bt a0 (ji79)]) := ⟨_, rfl⟩
                        replace H : (some (strOfNums y130)) = some r := by first | (rw [hy130]; with_reducible exact H) | (have H2_ := (Option.bind_some _ _).symm.trans H; rw [hy130]; with_reducible exact H2_) | (have H2_ := (Option.bind_some _ _).symm.trans H; with_reducible exact H2_) | with_reducible exact H | (rw [hy130]; exact H) | exact H
                        have Ny130 := Aside0.mk hy130
                        clear hy130
                        obtain rfl := Option.some.inj H
                        have p82 : 0 ≤ ((ji79) : Int) := of_decide_eq_true (by first | (with_reducible assumption) | assumption)
                        have q82 : (ji79) < (a0.size : Int) := of_decide_eq_true (by first | (with_reducible assumption) | assumption)
                        have hx82 := bt_at a0 (ji79)
                        replace p82 := eq_true p82
                        replace q82 := eq_true q82
                        go_wp2_with (first | ((with_reducible refine gate_callee (f := 73) rfl ?_); refine goesL_ (some 101) rfl rfl Tryd.func73 (by kernel_rfl) rfl #[.pointer (some ⟨gb112, 0, none⟩), .int .u8 (bt a0 (ji79))] rfl (by (try simp only [List.map_toArray, List.map_cons, List.map_nil]); first | done | rfl | (simp; done)) ?_; (refine (Kd.B_WriteByte (by (with_reducible repeat (first | apply Kd.B_alloc | apply Kd.B_drewN | apply Kd.B_drew)); exact HO_5.out) (bt a0 (ji79)) (by have := LMc83.out; omega) (by first | exact bt_range _ _ | (constructor <;> decide) | exact mod_range _ | omega)).mono ?_); rintro e w84 ⟨rfl, ho, hk⟩; refine ⟨_, rfl, ?_⟩; rw [← Ny130.out] at ho; have n0_ := Aside0.mk (Below.trans (by repeat (first | (with_reducible first | exact HB.out | apply below_alloc | apply pw_below_drewN | apply below_drew1) | exact HB.out)) hk.below); have n1_ := Aside0.mk (ho); clear HB; clear HO_5; have HB := n0_; have HO131 := n1_; clear n0_ n1_; clear ho hk) | ((with_reducible refine gate_callee (f := 41) rfl ?_); refine goesL_ (some 102) rfl rfl Tryd.func41 (by kernel_rfl) rfl #[.pointer (some ⟨gb112, 0, none⟩)] rfl (by (try simp only [List.map_toArray, List.map_cons, List.map_nil]); first | done | rfl | (simp; done)) ?_; (refine (Kd.B_String (by (with_reducible repeat (first | apply Kd.B_alloc | apply Kd.B_drewN | apply Kd.B_drew)); exact HO131.out)).mono ?_); rintro e w85 ⟨rfl, hb⟩; refine ⟨_, rfl, ?_⟩; have n0_ := Aside0.mk (Below.trans (by repeat (first | (with_reducible first | exact HB.out | apply below_alloc | apply pw_below_drewN | apply below_drew1) | exact HB.out)) hb); clear HB; clear HO131; have HB := n0_; clear n0_; clear hb))
                        repeat (go_quiet (first | ((with_reducible refine gate_callee (f := 73) rfl ?_); refine goesL_ (some 101) rfl rfl Tryd.func73 (by kernel_rfl) rfl #[.pointer (some ⟨gb112, 0, none⟩), .int .u8 (bt a0 (ji79))] rfl (by (try simp only [List.map_toArray, List.map_cons, List.map_nil]); first | done | rfl | (simp; done)) ?_; (refine (Kd.B_WriteByte (by (with_reducible repeat (first | apply Kd.B_alloc | apply Kd.B_drewN | apply Kd.B_drew)); exact HO_5.out) (bt a0 (ji79)) (by have := LMc83.out; omega) (by first | exact bt_range _ _ | (constructor <;> decide) | exact mod_range _ | omega)).mono ?_); rintro e w84 ⟨rfl, ho, hk⟩; refine ⟨_, rfl, ?_⟩; rw [← Ny130.out] at ho; have n0_ := Aside0.mk (Below.trans (by repeat (first | (with_reducible first | exact HB.out | apply below_alloc | apply pw_below_drewN | apply below_drew1) | exact HB.out)) hk.below); have n1_ := Aside0.mk (ho); clear HB; clear HO_5; have HB := n0_; have HO131 := n1_; clear n0_ n1_; clear ho hk) | ((with_reducible refine gate_callee (f := 41) rfl ?_); refine goesL_ (some 102) rfl rfl Tryd.func41 (by kernel_rfl) rfl #[.pointer (some ⟨gb112, 0, none⟩)] rfl (by (try simp only [List.map_toArray, List.map_cons, List.map_nil]); first | done | rfl | (simp; done)) ?_; (refine (Kd.B_String (by (with_reducible repeat (first | apply Kd.B_alloc | apply Kd.B_drewN | apply Kd.B_drew)); exact HO131.out)).mono ?_); rintro e w85 ⟨rfl, hb⟩; refine ⟨_, rfl, ?_⟩; have n0_ := Aside0.mk (Below.trans (by repeat (first | (with_reducible first | exact HB.out | apply below_alloc | apply pw_below_drewN | apply below_drew1) | exact HB.out)) hb); clear HB; clear HO131; have HB := n0_; clear n0_; clear hb)); try go_wp2_with (first | ((with_reducible refine gate_callee (f := 73) rfl ?_); refine goesL_ (some 101) rfl rfl Tryd.func73 (by kernel_rfl) rfl #[.pointer (some ⟨gb112, 0, none⟩), .int .u8 (bt a0 (ji79))] rfl (by (try simp only [List.map_toArray, List.map_cons, List.map_nil]); first | done | rfl | (simp; done)) ?_; (refine (Kd.B_WriteByte (by (with_reducible repeat (first | apply Kd.B_alloc | apply Kd.B_drewN | apply Kd.B_drew)); exact HO_5.out) (bt a0 (ji79)) (by have := LMc83.out; omega) (by first | exact bt_range _ _ | (constructor <;> decide) | exact mod_range _ | omega)).mono ?_); rintro e w84 ⟨rfl, ho, hk⟩; refine ⟨_, rfl, ?_⟩; rw [← Ny130.out] at ho; have n0_ := Aside0.mk (Below.trans (by repeat (first | (with_reducible first | exact HB.out | apply below_alloc | apply pw_below_drewN | apply below_drew1) | exact HB.out)) hk.below); have n1_ := Aside0.mk (ho); clear HB; clear HO_5; have HB := n0_; have HO131 := n1_; clear n0_ n1_; clear ho hk) | ((with_reducible refine gate_callee (f := 41) rfl ?_); refine goesL_ (some 102) rfl rfl Tryd.func41 (by kernel_rfl) rfl #[.pointer (some ⟨gb112, 0, none⟩)] rfl (by (try simp only [List.map_toArray, List.map_cons, List.map_nil]); first | done | rfl | (simp; done)) ?_; (refine (Kd.B_String (by (with_reducible repeat (first | apply Kd.B_alloc | apply Kd.B_drewN | apply Kd.B_drew)); exact HO131.out)).mono ?_); rintro e w85 ⟨rfl, hb⟩; refine ⟨_, rfl, ?_⟩; have n0_ := Aside0.mk (Below.trans (by repeat (first | (with_reducible first | exact HB.out | apply below_alloc | apply pw_below_drewN | apply below_drew1) | exact HB.out)) hb); clear HB; clear HO131; have HB := n0_; clear n0_; clear hb)))
                        go_ret
                        exact ⟨by first | rfl | (simp [errW_none, errW_some] <;> rfl) | (simp only [← hji79]; first | rfl | (simp [errW_none, errW_some] <;> rfl)) | (simp [*, errW_none, errW_some] <;> rfl), by repeat (first | (with_reducible first | exact HB.out | apply below_alloc | apply pw_below_drewN | apply below_drew1) | exact HB.out)⟩
                      · rw [if_neg c83] at H
                        exact absurd H (by simp)
                    · rw [if_neg c81] at H
                      exact absurd H (by simp)
                  · rw [if_neg c80] at H
                    exact absurd H (by simp)
                · rw [if_neg c78] at H
                  have c78b0 : ((x9_40.size : Int) == 2) = false := beq_eq_false_iff_ne.mpr c78
                  have c78b1 : ((x9_40.size : Int) != 2) = true := bne_iff_ne.mpr c78
                  obtain rfl := Option.some.inj H
                  go_wp2_with (first | ((with_reducible refine gate_callee (f := 41) rfl ?_); refine goesL_ (some 102) rfl rfl Tryd.func41 (by kernel_rfl) rfl #[.pointer (some ⟨gb112, 0, none⟩)] rfl (by (try simp only [List.map_toArray, List.map_cons, List.map_nil]); first | done | rfl | (simp; done)) ?_; (refine (Kd.B_String (by (with_reducible repeat (first | apply Kd.B_alloc | apply Kd.B_drewN | apply Kd.B_drew)); exact HO_5.out)).mono ?_); rintro e w86 ⟨rfl, hb⟩; refine ⟨_, rfl, ?_⟩; have n0_ := Aside0.mk (Below.trans (by repeat (first | (with_reducible first | exact HB.out | apply below_alloc | apply pw_below_drewN | apply below_drew1) | exact HB.out)) hb); clear HB; clear HO_5; have HB := n0_; clear n0_; clear hb))
                  repeat (go_quiet (first | ((with_reducible refine gate_callee (f := 41) rfl ?_); refine goesL_ (some 102) rfl rfl Tryd.func41 (by kernel_rfl) rfl #[.pointer (some ⟨gb112, 0, none⟩)] rfl (by (try simp only [List.map_toArray, List.map_cons, List.map_nil]); first | done | rfl | (simp; done)) ?_; (refine (Kd.B_String (by (with_reducible repeat (first | apply Kd.B_alloc | apply Kd.B_drewN | apply Kd.B_drew)); exact HO_5.out)).mono ?_); rintro e w86 ⟨rfl, hb⟩; refine ⟨_, rfl, ?_⟩; have n0_ := Aside0.mk (Below.trans (by repeat (first | (with_reducible first | exact HB.out | apply below_alloc | apply pw_below_drewN | apply below_drew1) | exact HB.out)) hb); clear HB; clear HO_5; have HB := n0_; clear n0_; clear hb)); try go_wp2_with (first | ((with_reducible refine gate_callee (f := 41) rfl ?_); refine goesL_ (some 102) rfl rfl Tryd.func41 (by kernel_rfl) rfl #[.pointer (some ⟨gb112, 0, none⟩)] rfl (by (try simp only [List.map_toArray, List.map_cons, List.map_nil]); first | done | rfl | (simp; done)) ?_; (refine (Kd.B_String (by (with_reducible repeat (first | apply Kd.B_alloc | apply Kd.B_drewN | apply Kd.B_drew)); exact HO_5.out)).mono ?_); rintro e w86 ⟨rfl, hb⟩; refine ⟨_, rfl, ?_⟩; have n0_ := Aside0.mk (Below.trans (by repeat (first | (with_reducible first | exact HB.out | apply below_alloc | apply pw_below_drewN | apply below_drew1) | exact HB.out)) hb); clear HB; clear HO_5; have HB := n0_; clear n0_; clear hb)))
                  go_ret
                  exact ⟨by first | rfl | (simp [errW_none, errW_some] <;> rfl) | (simp [*, errW_none, errW_some] <;> rfl), by repeat (first | (with_reducible first | exact HB.out | apply below_alloc | apply pw_below_drewN | apply below_drew1) | exact HB.out)⟩

end Go.Proofs.YtdlfdmbaejhaaaaDoor.Q
