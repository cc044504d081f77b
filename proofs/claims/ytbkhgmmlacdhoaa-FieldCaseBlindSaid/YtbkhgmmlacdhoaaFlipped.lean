/- The call of usherlaw6.flipped answers the text with some of its letters in the other case. Conditions: the text has at most 140737488351232 bytes. -/
import Derived.Test.YtbkhgmmlacdhoaaGlob
import Derived.Test.YtbkhgmmlacdhoaaTool
import Derived.Lib.Hide
import Derived.Outline
set_option linter.unusedVariables false
set_option linter.unusedSimpArgs false
namespace Go.Proofs.Ytbkhgmmlacdhoaa.Q
open Go.RowKit Go.Proofs.YtbkhgmmlacdhoaaW.PrintWords Go.Proofs.YtbkhgmmlacdhoaaW.PrintLast Go.Proofs.YtbkhgmmlacdhoaaW.PrintMore

/-- Is the letter at place i turned? -/
def turnB (mask : Int) (i : Nat) : Bool := decide (bits .and .i64 (mask / 2 ^ (i % 62)) 1 = 1)
def flipI (mask : Int) (i : Nat) (c : Int) : Int := if turnB mask i then (if 97 ≤ c ∧ c ≤ 122 then c - 32 else if 65 ≤ c ∧ c ≤ 90 then c + 32 else c) else c
def flipTo (mask : Int) (s : ByteArray) (k : Nat) : List Int := (List.range k).map fun i => flipI mask i (bt s i)
theorem flipTo_succ (mask : Int) (s : ByteArray) (k : Nat) : flipTo mask s (k + 1) = flipTo mask s k ++ [flipI mask k (bt s k)] := by
  unfold flipTo; rw [List.range_succ, List.map_append]; rfl
theorem flipTo_length (mask : Int) (s : ByteArray) (k : Nat) : (flipTo mask s k).length = k := by unfold flipTo; simp
/-- What usherlaw6.flipped answers. -/
def usherlaw6_flipped.f (a0 : ByteArray) (a1 : Int) : Option ByteArray := if a0.size ≤ 140737488351232 then some (strOfNums (flipTo a1 a0 a0.size)) else none
theorem info_u8 : (Try.prog.info? 5).map (fun i => (i.zero, i.size, i.bytes)) = some (some (.int .u8 0), 1, 1) := by kernel_rfl

theorem wrapU8 {x : Int} (h0 : 0 ≤ x) (h1 : x < 256) : IntKind.u8.wrap x = x := by
  show (x % 256 : Int) = x
  omega
set_option maxHeartbeats 8000000 in
theorem usherlaw6_flipped.calls (a0 : ByteArray) (a1 : Int) (r : ByteArray) (w : World) (h : usherlaw6_flipped.f a0 a1 = some r) :
    Calls Try.prog 11 #[.string a0, .int .i64 a1] w fun e w' => e = .returned (.string r) ∧ Below w.heap.size w w' := by
  have hs : a0.size ≤ 140737488351232 := by
    unfold usherlaw6_flipped.f at h; split at h
    · assumption
    · cases h
  have hr : strOfNums (flipTo a1 a0 a0.size) = r := by
    unfold usherlaw6_flipped.f at h; rw [if_pos hs] at h; injection h
  have HR := Aside0.mk hr
  clear h hr
  go_enter Try.func11, Try.ntmps11
  go_wp2
  go_loopw [5, 6] (fun v i wr => ∃ k : Nat, k ≤ a0.size ∧ i = .int .i64 k ∧ Aside0 (Kd.R (Kd.int .u8) 5 wr w.heap.size (fun _ => True) v (flipTo a1 a0 k)) ∧ Aside0 (Below w.heap.size w wr)) (fun _ i _ => a0.size - (intOf i).toNat)
  case atStart => exact ⟨0, by omega, rfl, ⟨Kd.R_nil _ _ _ _ _⟩, ⟨Below.refl _ _⟩⟩
  case round =>
    obtain ⟨k, hk, rfl, HO, HB⟩ := hrel
    by_cases hlt : k < a0.size
    · obtain ⟨b0, b1⟩ := bt_range a0 k
      have hx : ∀ h : k < a0.size, ((a0[k]).toNat : Int) = bt a0 k := fun h => by simp [bt, h]
      have hfl := flipTo_succ a1 a0 k
      generalize hb : bt a0 k = c at *
      have Hb := Aside0.mk hb
      clear hb
      obtain ⟨y, hy⟩ : ∃ y : Int, y = flipI a1 k c := ⟨_, rfl⟩
      rw [← hy] at hfl
      have hl := flipTo_length a1 a0 k
      have Hl := Aside0.mk hl
      clear hl
      unfold flipI turnB at hy
      generalize hT : bits .and .i64 (a1 / 2 ^ (k % 62)) 1 = T at *
      by_cases ht : T = 1
      · have ht1 : (T == 1) = true := by simp [ht]
        rw [if_pos (by simp [ht])] at hy
        by_cases ha : 97 ≤ c ∧ c ≤ 122
        · obtain ⟨ha1, ha2⟩ := ha
          rw [if_pos ⟨ha1, ha2⟩] at hy
          subst hy
          have Hfl := Aside0.mk hfl
          clear hfl
          have hw1 : IntKind.u8.wrap (c - 97) = c - 97 := wrapU8 (by omega) (by omega)
          have hw2 : IntKind.u8.wrap (c - 97 + 65) = c - 32 := by rw [show c - 97 + 65 = c - 32 by omega]; exact wrapU8 (by omega) (by omega)
          go_wp2_with ((with_reducible refine gate_builtin (b := .append) (xs := #[.tmp 49, .tmp 51]) rfl ?_); at_builtin; refine Kd.R_append (Kd.int .u8) (w0 := w) w.heap.size rfl (.tmp 49) (.tmp 51) 38 5 (.int .u8 0) 1 rfl Try.underlying38 info_u8 rfl (by decide) (by omega) u5 (flipTo a1 a0 k) (c - 32) [.int .u8 (c - 32)] (fun _ => True) (fun _ => False) rfl rfl ?aP (fun _ hk => hk.elim) ?aF ?aO ?aB ?aS ?aL ?_; (case aP => exact rfl); (case aB => exact (by repeat (first | (with_reducible first | exact HB.out | apply below_alloc) | exact HB.out))); (case aF => exact (fun _ _ => trivial)); (case aO => exact (by (with_reducible repeat (first | apply Kd.R_alloc)); exact HO.out)); (case aS => exact (below_size (by repeat (first | (with_reducible first | exact HB.out | apply below_alloc) | exact HB.out)))); (case aL => have := Hl.out; omega); intro v wv ho hb hg hat; rw [← Hfl.out] at ho; have n0_ := Aside0.mk (hb); have n1_ := Aside0.mk (ho); clear HB HO; have HB := n0_; have HO := n1_; clear n0_ n1_ ho hb hg hat)
          go_roundw
          case measure => simp only [intOf, Array.getD_eq_getD_getElem?]; omega
          case rel => exact ⟨k + 1, by omega, by first | rfl | (simp; done) | (simp [*]; done), ⟨by (with_reducible repeat (first | apply Kd.R_alloc)); exact HO.out⟩, ⟨by repeat (first | (with_reducible first | exact HB.out | apply below_alloc) | exact HB.out)⟩⟩
        · rw [if_neg ha] at hy
          by_cases hA : 65 ≤ c ∧ c ≤ 90
          · obtain ⟨hA1, hA2⟩ := hA
            rw [if_pos ⟨hA1, hA2⟩] at hy
            subst hy
            have Hfl := Aside0.mk hfl
            clear hfl
            have hn : c < 97 := by omega
            have hw1 : IntKind.u8.wrap (c - 65) = c - 65 := wrapU8 (by omega) (by omega)
            have hw2 : IntKind.u8.wrap (c - 65 + 97) = c + 32 := by rw [show c - 65 + 97 = c + 32 by omega]; exact wrapU8 (by omega) (by omega)
            go_wp2_with ((with_reducible refine gate_builtin (b := .append) (xs := #[.tmp 49, .tmp 51]) rfl ?_); at_builtin; refine Kd.R_append (Kd.int .u8) (w0 := w) w.heap.size rfl (.tmp 49) (.tmp 51) 38 5 (.int .u8 0) 1 rfl Try.underlying38 info_u8 rfl (by decide) (by omega) u5 (flipTo a1 a0 k) (c + 32) [.int .u8 (c + 32)] (fun _ => True) (fun _ => False) rfl rfl ?aP (fun _ hk => hk.elim) ?aF ?aO ?aB ?aS ?aL ?_; (case aP => exact rfl); (case aB => exact (by repeat (first | (with_reducible first | exact HB.out | apply below_alloc) | exact HB.out))); (case aF => exact (fun _ _ => trivial)); (case aO => exact (by (with_reducible repeat (first | apply Kd.R_alloc)); exact HO.out)); (case aS => exact (below_size (by repeat (first | (with_reducible first | exact HB.out | apply below_alloc) | exact HB.out)))); (case aL => have := Hl.out; omega); intro v wv ho hb hg hat; rw [← Hfl.out] at ho; have n0_ := Aside0.mk (hb); have n1_ := Aside0.mk (ho); clear HB HO; have HB := n0_; have HO := n1_; clear n0_ n1_ ho hb hg hat)
            go_roundw
            case measure => simp only [intOf, Array.getD_eq_getD_getElem?]; omega
            case rel => exact ⟨k + 1, by omega, by first | rfl | (simp; done) | (simp [*]; done), ⟨by (with_reducible repeat (first | apply Kd.R_alloc)); exact HO.out⟩, ⟨by repeat (first | (with_reducible first | exact HB.out | apply below_alloc) | exact HB.out)⟩⟩
          · rw [if_neg hA] at hy
            subst hy
            have Hfl := Aside0.mk hfl
            clear hfl
            by_cases g1 : 97 ≤ y
            · have g2 : 122 < y := by omega
              have g3 : 90 < y := by omega
              go_wp2_with ((with_reducible refine gate_builtin (b := .append) (xs := #[.tmp 49, .tmp 51]) rfl ?_); at_builtin; refine Kd.R_append (Kd.int .u8) (w0 := w) w.heap.size rfl (.tmp 49) (.tmp 51) 38 5 (.int .u8 0) 1 rfl Try.underlying38 info_u8 rfl (by decide) (by omega) u5 (flipTo a1 a0 k) y [.int .u8 y] (fun _ => True) (fun _ => False) rfl rfl ?aP (fun _ hk => hk.elim) ?aF ?aO ?aB ?aS ?aL ?_; (case aP => exact rfl); (case aB => exact (by repeat (first | (with_reducible first | exact HB.out | apply below_alloc) | exact HB.out))); (case aF => exact (fun _ _ => trivial)); (case aO => exact (by (with_reducible repeat (first | apply Kd.R_alloc)); exact HO.out)); (case aS => exact (below_size (by repeat (first | (with_reducible first | exact HB.out | apply below_alloc) | exact HB.out)))); (case aL => have := Hl.out; omega); intro v wv ho hb hg hat; rw [← Hfl.out] at ho; have n0_ := Aside0.mk (hb); have n1_ := Aside0.mk (ho); clear HB HO; have HB := n0_; have HO := n1_; clear n0_ n1_ ho hb hg hat)
              go_roundw
              case measure => simp only [intOf, Array.getD_eq_getD_getElem?]; omega
              case rel => exact ⟨k + 1, by omega, by first | rfl | (simp; done) | (simp [*]; done), ⟨by (with_reducible repeat (first | apply Kd.R_alloc)); exact HO.out⟩, ⟨by repeat (first | (with_reducible first | exact HB.out | apply below_alloc) | exact HB.out)⟩⟩
            · by_cases g2 : 65 ≤ y
              · have g3 : 90 < y := by omega
                go_wp2_with ((with_reducible refine gate_builtin (b := .append) (xs := #[.tmp 49, .tmp 51]) rfl ?_); at_builtin; refine Kd.R_append (Kd.int .u8) (w0 := w) w.heap.size rfl (.tmp 49) (.tmp 51) 38 5 (.int .u8 0) 1 rfl Try.underlying38 info_u8 rfl (by decide) (by omega) u5 (flipTo a1 a0 k) y [.int .u8 y] (fun _ => True) (fun _ => False) rfl rfl ?aP (fun _ hk => hk.elim) ?aF ?aO ?aB ?aS ?aL ?_; (case aP => exact rfl); (case aB => exact (by repeat (first | (with_reducible first | exact HB.out | apply below_alloc) | exact HB.out))); (case aF => exact (fun _ _ => trivial)); (case aO => exact (by (with_reducible repeat (first | apply Kd.R_alloc)); exact HO.out)); (case aS => exact (below_size (by repeat (first | (with_reducible first | exact HB.out | apply below_alloc) | exact HB.out)))); (case aL => have := Hl.out; omega); intro v wv ho hb hg hat; rw [← Hfl.out] at ho; have n0_ := Aside0.mk (hb); have n1_ := Aside0.mk (ho); clear HB HO; have HB := n0_; have HO := n1_; clear n0_ n1_ ho hb hg hat)
                go_roundw
                case measure => simp only [intOf, Array.getD_eq_getD_getElem?]; omega
                case rel => exact ⟨k + 1, by omega, by first | rfl | (simp; done) | (simp [*]; done), ⟨by (with_reducible repeat (first | apply Kd.R_alloc)); exact HO.out⟩, ⟨by repeat (first | (with_reducible first | exact HB.out | apply below_alloc) | exact HB.out)⟩⟩
              · go_wp2_with ((with_reducible refine gate_builtin (b := .append) (xs := #[.tmp 49, .tmp 51]) rfl ?_); at_builtin; refine Kd.R_append (Kd.int .u8) (w0 := w) w.heap.size rfl (.tmp 49) (.tmp 51) 38 5 (.int .u8 0) 1 rfl Try.underlying38 info_u8 rfl (by decide) (by omega) u5 (flipTo a1 a0 k) y [.int .u8 y] (fun _ => True) (fun _ => False) rfl rfl ?aP (fun _ hk => hk.elim) ?aF ?aO ?aB ?aS ?aL ?_; (case aP => exact rfl); (case aB => exact (by repeat (first | (with_reducible first | exact HB.out | apply below_alloc) | exact HB.out))); (case aF => exact (fun _ _ => trivial)); (case aO => exact (by (with_reducible repeat (first | apply Kd.R_alloc)); exact HO.out)); (case aS => exact (below_size (by repeat (first | (with_reducible first | exact HB.out | apply below_alloc) | exact HB.out)))); (case aL => have := Hl.out; omega); intro v wv ho hb hg hat; rw [← Hfl.out] at ho; have n0_ := Aside0.mk (hb); have n1_ := Aside0.mk (ho); clear HB HO; have HB := n0_; have HO := n1_; clear n0_ n1_ ho hb hg hat)
                go_roundw
                case measure => simp only [intOf, Array.getD_eq_getD_getElem?]; omega
                case rel => exact ⟨k + 1, by omega, by first | rfl | (simp; done) | (simp [*]; done), ⟨by (with_reducible repeat (first | apply Kd.R_alloc)); exact HO.out⟩, ⟨by repeat (first | (with_reducible first | exact HB.out | apply below_alloc) | exact HB.out)⟩⟩
      · have ht1 : (T == 1) = false := by simp [ht]
        rw [if_neg (by simp [ht])] at hy
        subst hy
        have Hfl := Aside0.mk hfl
        clear hfl
        go_wp2_with ((with_reducible refine gate_builtin (b := .append) (xs := #[.tmp 49, .tmp 51]) rfl ?_); at_builtin; refine Kd.R_append (Kd.int .u8) (w0 := w) w.heap.size rfl (.tmp 49) (.tmp 51) 38 5 (.int .u8 0) 1 rfl Try.underlying38 info_u8 rfl (by decide) (by omega) u5 (flipTo a1 a0 k) y [.int .u8 y] (fun _ => True) (fun _ => False) rfl rfl ?aP (fun _ hk => hk.elim) ?aF ?aO ?aB ?aS ?aL ?_; (case aP => exact rfl); (case aB => exact (by repeat (first | (with_reducible first | exact HB.out | apply below_alloc) | exact HB.out))); (case aF => exact (fun _ _ => trivial)); (case aO => exact (by (with_reducible repeat (first | apply Kd.R_alloc)); exact HO.out)); (case aS => exact (below_size (by repeat (first | (with_reducible first | exact HB.out | apply below_alloc) | exact HB.out)))); (case aL => have := Hl.out; omega); intro v wv ho hb hg hat; rw [← Hfl.out] at ho; have n0_ := Aside0.mk (hb); have n1_ := Aside0.mk (ho); clear HB HO; have HB := n0_; have HO := n1_; clear n0_ n1_ ho hb hg hat)
        go_roundw
        case measure => simp only [intOf, Array.getD_eq_getD_getElem?]; omega
        case rel => exact ⟨k + 1, by omega, by first | rfl | (simp; done) | (simp [*]; done), ⟨by (with_reducible repeat (first | apply Kd.R_alloc)); exact HO.out⟩, ⟨by repeat (first | (with_reducible first | exact HB.out | apply below_alloc) | exact HB.out)⟩⟩
    · have hke : k = a0.size := by omega
      subst hke
      have hcv8 := own_string (P := Try.prog) Try.underlying38 Try.underlying5 Try.underlying9 (Kd.own_of_R HO.out)
      rw [HR.out] at hcv8
      go_wp2
      go_ret
      exact ⟨rfl, HB.out⟩
end Go.Proofs.Ytbkhgmmlacdhoaa.Q
