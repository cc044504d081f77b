/- The calls of field's cursor: end, next, eat, run, rest, at a cursor that lies at the head of a block. Conditions: the text has at most 140737488351232 bytes, the place is in it. -/
import Derived.Test.YtbkhgmmlacdhoaaDoorGlob
import Derived.Test.YtbkhgmmlacdhoaaDoorIs
import Derived.Test.YtbkhgmmlacdhoaaDoorTool
import Derived.Lib.Builder
import Derived.Lib.Hide
import Derived.Outline
import Derived.Deep.QuietTactic
import Derived.BigQuiet
set_option linter.unusedVariables false
set_option linter.unusedSimpArgs false
namespace Go.Proofs.YtbkhgmmlacdhoaaDoor.Q
open Go.RowKit Go.Proofs.YtbkhgmmlacdhoaaDoorW.PrintWords Go.Proofs.YtbkhgmmlacdhoaaDoorW.PrintLast Go.Proofs.YtbkhgmmlacdhoaaDoorW.PrintMore

/-- Block g, of type t, holds a text and a place in it. -/
def Cur (g : Nat) (t : TypeId) (s : ByteArray) (i : Nat) (w : World) : Prop := w.heap[g]? = some (.cells #[.string s, .int .i64 (i : Int)] t (0, 0))
theorem Cur.c0 {g : Nat} {t : TypeId} {s : ByteArray} {i : Nat} {w : World} (h : Cur g t s i w) : w.cell? ⟨g, 0, none⟩ = some (.string s) := by rw [Lib.cell_of_heap h]; rfl
theorem Cur.c1 {g : Nat} {t : TypeId} {s : ByteArray} {i : Nat} {w : World} (h : Cur g t s i w) : w.cell? ⟨g, 1, none⟩ = some (.int .i64 (i : Int)) := by rw [Lib.cell_of_heap h]; rfl
theorem Cur.fz {g : Nat} {t : TypeId} {s : ByteArray} {i : Nat} {w : World} (h : Cur g t s i w) : w.frozen? ⟨g, 1, none⟩ = false := Lib.frozen_of_heap h 1
theorem Cur.lt {g : Nat} {t : TypeId} {s : ByteArray} {i : Nat} {w : World} (h : Cur g t s i w) : g < w.heap.size := by
  rcases Nat.lt_or_ge g w.heap.size with h' | h'
  · exact h'
  · unfold Cur at h; rw [Array.getElem?_eq_none h'] at h; cases h
theorem Cur.set {g : Nat} {t : TypeId} {s : ByteArray} {i : Nat} {w : World} (h : Cur g t s i w) (j : Nat) : Cur g t s j (w.setCell ⟨g, 1, none⟩ (.int .i64 (j : Int))) := by
  unfold Cur at h ⊢
  simp [World.setCell, Array.getElem?_modify, h]
/-- What turned is block g alone. -/
structure Only (g : Nat) (w w' : World) : Prop where
  os : w'.os = w.os
  tape : w'.tape = w.tape
  output : w'.output = w.output
  size : w'.heap.size = w.heap.size
  block : ∀ k, k ≠ g → w'.heap[k]? = w.heap[k]?
theorem Only.refl (g : Nat) (w : World) : Only g w w := ⟨rfl, rfl, rfl, rfl, fun _ _ => rfl⟩
theorem Only.trans {g : Nat} {u v w : World} (a : Only g u v) (b : Only g v w) : Only g u w := ⟨b.os.trans a.os, b.tape.trans a.tape, b.output.trans a.output, b.size.trans a.size, fun k hk => (b.block k hk).trans (a.block k hk)⟩
theorem Only.drewN {g : Nat} {u v : World} (a : Only g u v) (n : Nat) : Only g u (v.drewN n) := ⟨a.os, a.tape, a.output, a.size, a.block⟩
theorem Only.drew {g : Nat} {u v : World} (a : Only g u v) : Only g u v.drew := ⟨a.os, a.tape, a.output, a.size, a.block⟩
theorem Only.set {g : Nat} {u v : World} (a : Only g u v) (x : Value) : Only g u (v.setCell ⟨g, 1, none⟩ x) := ⟨a.os, a.tape, a.output, by rw [← a.size]; simp [World.setCell], fun k hk => (Below.heap_setCell _ _ _ _ hk).trans (a.block k hk)⟩
theorem Only.below {g B : Nat} {u v : World} (a : Only g u v) (h : B ≤ g) : Below B u v := ⟨a.os, a.tape, a.output, by rw [a.size]; exact Nat.le_refl _, fun k hk => a.block k (by omega)⟩

set_option maxHeartbeats 1000000 in
theorem cursor_end (g : Nat) (t : TypeId) (s : ByteArray) (i : Nat) (w : World) (h : Cur g t s i w) :
    Calls Tryd.prog 95 #[.pointer (some ⟨g, 0, none⟩)] w fun e w' => e = .returned (.bool (decide (s.size ≤ i))) ∧ Drawn0 w w' := by
  have c0 := h.c0
  have c1 := h.c1
  clear h
  go_enter Tryd.func95, Tryd.ntmps95
  go_wp2
  repeat (go_quiet (fail); try go_wp2)
  go_ret
  exact ⟨by simp, by repeat (first | exact Drawn0.refl _ | apply Drawn0.step)⟩
set_option maxHeartbeats 1000000 in
theorem cursor_rest (g : Nat) (t : TypeId) (s : ByteArray) (i : Nat) (w : World) (h : Cur g t s i w) (hi : i ≤ s.size) :
    Calls Tryd.prog 82 #[.pointer (some ⟨g, 0, none⟩)] w fun e w' => e = .returned (.string (s.extract i s.size)) ∧ Drawn0 w w' := by
  have c0 := h.c0
  have c1 := h.c1
  clear h
  go_enter Tryd.func82, Tryd.ntmps82
  go_wp2
  repeat (go_quiet (fail); try go_wp2)
  go_ret
  exact ⟨by simp, by repeat (first | exact Drawn0.refl _ | apply Drawn0.step)⟩
set_option maxHeartbeats 1000000 in
theorem cursor_next (g : Nat) (t : TypeId) (s : ByteArray) (i : Nat) (w : World) (h : Cur g t s i w) (hi : i < s.size) :
    Calls Tryd.prog 96 #[.pointer (some ⟨g, 0, none⟩)] w fun e w' => e = .returned (.int .u8 (bt s (i : Int))) ∧ Drawn0 w w' := by
  have c0 := h.c0
  have c1 := h.c1
  have he := fun n => cursor_end g t s i (w.drewN n) h
  rw [show decide (s.size ≤ i) = false by simp; omega] at he
  have hx : ∀ h : i < s.size, (((s[i]).toNat : Nat) : Int) = bt s (i : Int) := fun h => by simp [bt, h]
  have he0 := cursor_end g t s i w h
  rw [show decide (s.size ≤ i) = false by simp; omega] at he0
  clear h
  go_enter Tryd.func96, Tryd.ntmps96
  go_wp2_with (first | (go_at_call 95; refine he0.mono ?_; rintro e w' ⟨rfl, ⟨m, rfl⟩⟩))
  repeat (go_quiet (fail); try go_wp2)
  go_ret
  exact ⟨by simp [hx, hi], by repeat (first | exact Drawn0.refl _ | apply Drawn0.step | exact ⟨_, rfl⟩)⟩
theorem cursor_end_q (g : Nat) (t : TypeId) (s : ByteArray) (i : Nat) (w : World) (h : Cur g t s i w) (n : Nat) (b : Bool) (hb : decide (s.size ≤ i) = b) :
    Calls Tryd.prog 95 #[.pointer (some ⟨g, 0, none⟩)] (w.drewN n) fun e w' => e = .returned (.bool b) ∧ ∃ m, w' = w.drewN m := by
  subst hb
  exact Calls.quiet_of ((cursor_end g t s i (w.drewN n) h).mono fun _ _ ⟨a, b, c⟩ => ⟨a, b, c⟩)
set_option maxHeartbeats 2000000 in
/-- eat: no. -/
theorem cursor_eat_no (g : Nat) (t : TypeId) (s : ByteArray) (i : Nat) (b : Int) (w : World) (h : Cur g t s i w) (hi : ¬ (i < s.size ∧ bt s (i : Int) = b)) :
    Calls Tryd.prog 63 #[.pointer (some ⟨g, 0, none⟩), .int .u8 b] w fun e w' => e = .returned (.bool false) ∧ Drawn0 w w' := by
  have c0 := h.c0
  have c1 := h.c1
  by_cases hlt : i < s.size
  · have hx : ∀ h : i < s.size, (((s[i]).toNat : Nat) : Int) = bt s (i : Int) := fun h => by simp [bt, h]
    have hne : (bt s (i : Int) != b) = true := by simp; exact fun e => hi ⟨hlt, e⟩
    have he := fun n => cursor_end_q g t s i w h n false (decide_eq_false (by omega))
    have hd : decide (i < s.size) = true := decide_eq_true hlt
    generalize bt s (i : Int) = c at *
    clear h
    go_enter Tryd.func63, Tryd.ntmps63
    go_wp2
    repeat (go_quiet (first | (go_at_call 95; exact he _)); try go_wp2)
    go_ret
    exact ⟨by simp, by repeat (first | exact Drawn0.refl _ | apply Drawn0.step | exact ⟨_, rfl⟩)⟩
  · have he := fun n => cursor_end_q g t s i w h n true (decide_eq_true (by omega))
    clear h
    go_enter Tryd.func63, Tryd.ntmps63
    go_wp2
    repeat (go_quiet (first | (go_at_call 95; exact he _)); try go_wp2)
    go_ret
    exact ⟨by simp, by repeat (first | exact Drawn0.refl _ | apply Drawn0.step | exact ⟨_, rfl⟩)⟩
set_option maxHeartbeats 2000000 in
/-- eat: yes. -/
theorem cursor_eat_yes (g : Nat) (t : TypeId) (s : ByteArray) (i : Nat) (b : Int) (w : World) (h : Cur g t s i w) (hs : s.size ≤ 140737488351232) (hlt : i < s.size) (hb : bt s (i : Int) = b) :
    Calls Tryd.prog 63 #[.pointer (some ⟨g, 0, none⟩), .int .u8 b] w fun e w' => e = .returned (.bool true) ∧ Cur g t s (i + 1) w' ∧ Only g w w' := by
  have c0 := h.c0
  have c1 := h.c1
  have fz := h.fz
  have hx0 : ∀ h : i < s.size, (((s[i]).toNat : Nat) : Int) = bt s (i : Int) := fun h => by clear hb; simp [bt, h]
  have hx : ∀ h : i < s.size, (((s[i]).toNat : Nat) : Int) = b := fun h => (hx0 h).trans hb
  clear hx0
  have he := fun n => cursor_end_q g t s i w h n false (decide_eq_false (by omega))
  have hd : decide (i < s.size) = true := decide_eq_true hlt
  have HC := Aside0.mk h
  clear h
  go_enter Tryd.func63, Tryd.ntmps63
  go_wp2
  repeat (go_quiet (first | (go_at_call 95; exact he _)); try go_wp2)
  go_ret
  refine ⟨by simp, ?_, ?_⟩
  · have e1 : (i : Int) + 1 = ((i + 1 : Nat) : Int) := by omega
    rw [e1]
    exact Cur.set (show Cur g t s i _ from HC.out) (i + 1)
  · exact Only.set (Only.drewN (Only.refl _ _) _) _
/-- Has the byte c one of these flags? -/
def isB (k c : Int) : Bool := bits .and .u8 (kindsL.getD c.toNat 0) k != 0
theorem isB_some (c k : Int) (h0 : 0 ≤ c) (h1 : c ≤ 255) : field_is.f c k = some (isB k c) := by
  unfold field_is.f isB; rw [if_pos ⟨h0, by omega⟩]
/-- Where a run from i on ends. -/
def runTo (s : ByteArray) (k : Int) (i : Nat) : Nat := i + (((bytesOf s).drop i).takeWhile (isB k)).length
theorem runTo_no (s : ByteArray) (k : Int) (i : Nat) (h : ¬ (i < s.size ∧ isB k (bt s (i : Int)) = true)) : runTo s k i = i := by
  unfold runTo
  by_cases hi : i < s.size
  · rw [drop_cons (bytesOf s) i 0 (by rw [bytesOf_length]; exact hi), List.takeWhile_cons, ← bt_nat]
    have : isB k (bt s (i : Int)) = false := by
      cases hb : isB k (bt s (i : Int))
      · rfl
      · exact absurd ⟨hi, hb⟩ h
    rw [this]; rfl
  · rw [List.drop_eq_nil_of_le (by rw [bytesOf_length]; omega)]; rfl
theorem runTo_yes (s : ByteArray) (k : Int) (i : Nat) (hi : i < s.size) (h : isB k (bt s (i : Int)) = true) : runTo s k i = runTo s k (i + 1) := by
  unfold runTo
  rw [drop_cons (bytesOf s) i 0 (by rw [bytesOf_length]; exact hi), List.takeWhile_cons, ← bt_nat, h]
  simp; omega
theorem runTo_ge (s : ByteArray) (k : Int) (i : Nat) : i ≤ runTo s k i := by unfold runTo; omega
theorem runTo_le (s : ByteArray) (k : Int) (i : Nat) (hi : i ≤ s.size) : runTo s k i ≤ s.size := by
  unfold runTo
  have h1 := (List.takeWhile_prefix (isB k) (l := (bytesOf s).drop i)).length_le
  rw [List.length_drop, bytesOf_length] at h1
  omega
/-- The place in the world at hand. -/
def placeOf (g : Nat) (w : World) : Nat := match w.cell? ⟨g, 1, none⟩ with
  | some (.int _ n) => n.toNat
  | _ => 0
theorem placeOf_cur {g : Nat} {t : TypeId} {s : ByteArray} {i : Nat} {w : World} (h : Cur g t s i w) : placeOf g w = i := by
  unfold placeOf; rw [h.c1]; simp
set_option maxHeartbeats 4000000 in
theorem cursor_run [Sent] (g : Nat) (t : TypeId) (s : ByteArray) (i : Nat) (k : Int) (w : World) (h : Cur g t s i w) (hs : s.size ≤ 140737488351232) (hi : i ≤ s.size) (w0 : World) (hG : Glob [8] w0) (hB0 : Below w0.heap.size w0 w) (hg : w0.heap.size ≤ g) :
    Calls Tryd.prog 62 #[.pointer (some ⟨g, 0, none⟩), .int .u8 k] w fun e w' => e = .returned (.string (s.extract i (runTo s k i))) ∧ Cur g t s (runTo s k i) w' ∧ Only g w w' := by
  have c0 := h.c0
  have c1 := h.c1
  have HC := Aside0.mk h
  have HG := Aside0.mk hG
  have HB0 := Aside0.mk hB0
  clear h hG hB0
  go_enter Tryd.func62, Tryd.ntmps62
  go_wp2
  go_loopw [] (fun wr => ∃ j : Nat, i ≤ j ∧ j ≤ s.size ∧ runTo s k j = runTo s k i ∧ Aside0 (Cur g t s j wr) ∧ Aside0 (Only g w wr)) (fun wr => s.size - placeOf g wr)
  case atStart => exact ⟨i, Nat.le_refl _, hi, rfl, HC, ⟨Only.refl _ _⟩⟩
  case round =>
    obtain ⟨j, hij, hj, hrun, HJ, HO⟩ := hrel
    have d0 := HJ.out.c0
    have d1 := HJ.out.c1
    have fz := HJ.out.fz
    by_cases hlt : j < s.size
    · have hx : ∀ h : j < s.size, (((s[j]).toNat : Nat) : Int) = bt s (j : Int) := fun h => by simp [bt, h]
      have hr := bt_range s (j : Int)
      have hd : decide (j < s.size) = true := decide_eq_true hlt
      have he := fun n => cursor_end_q g t s j wr HJ.out n false (decide_eq_false (by omega))
      have hrn := runTo_no s k j
      have hry := runTo_yes s k j hlt
      have hf := isB_some (bt s (j : Int)) k hr.1 hr.2
      have hGw : Glob [8] wr := HG.out.step (HB0.out.trans (HO.out.below hg)) (by rfl)
      have hq := fun n => Calls.quiet_of ((field_is.calls (bt s (j : Int)) k _ (wr.drewN n) hf (hGw.drewN n)).mono fun _ _ ⟨a, b, c⟩ => ⟨a, b, c⟩)
      generalize bt s (j : Int) = c at *
      cases hb : isB k c with
      | true =>
        rw [hb] at hq
        go_wp2
        repeat (go_quiet (first | (go_at_call 95; exact he _) | (go_at_call 49; exact hq _)); try go_wp2)
        have e1 : (j : Int) + 1 = ((j + 1 : Nat) : Int) := by omega
        rw [e1]
        have hc2 : Cur g t s (j + 1) ((wr.drewN nq).setCell ⟨g, 1, none⟩ (.int .i64 ((j + 1 : Nat) : Int))) := Cur.set (show Cur g t s j (wr.drewN nq) from HJ.out) (j + 1)
        refine ⟨⟨j + 1, by omega, by omega, (hry hb).symm.trans hrun, ⟨hc2⟩, ⟨Only.set (Only.drewN HO.out _) _⟩⟩, ?_⟩
        rw [placeOf_cur hc2, placeOf_cur HJ.out]
        omega
      | false =>
        rw [hb] at hq
        have hR : runTo s k i = j := by rw [← hrun]; exact hrn (by rw [hb]; simp)
        go_wp2
        repeat (go_quiet (first | (go_at_call 95; exact he _) | (go_at_call 49; exact hq _)); try go_wp2)
        go_ret
        rw [hR]
        refine ⟨by simp, ?_, ?_⟩
        · exact (show Cur g t s j _ from HJ.out)
        · repeat (first | exact HO.out | apply Only.drewN | apply Only.drew)
    · have he := fun n => cursor_end_q g t s j wr HJ.out n true (decide_eq_true (by omega))
      have hR : runTo s k i = j := by rw [← hrun]; exact runTo_no s k j (fun h => hlt h.1)
      go_wp2
      repeat (go_quiet (first | (go_at_call 95; exact he _)); try go_wp2)
      go_ret
      rw [hR]
      refine ⟨by simp, ?_, ?_⟩
      · exact (show Cur g t s j _ from HJ.out)
      · repeat (first | exact HO.out | apply Only.drewN | apply Only.drew)
end Go.Proofs.YtbkhgmmlacdhoaaDoor.Q
