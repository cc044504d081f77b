/- The call of field.Media answers the type in small letters, or a refusal. Conditions: the text has at most 140737488351232 bytes. -/
import Derived.Test.YtbkhgmmlacdhoaaDoorMedia3
import Derived.Test.YtbkhgmmlacdhoaaDoorLow
set_option linter.unusedVariables false
set_option linter.unusedSimpArgs false
namespace Go.Proofs.YtbkhgmmlacdhoaaDoor.Q
open Go.RowKit Go.Proofs.YtbkhgmmlacdhoaaDoorW.PrintWords Go.Proofs.YtbkhgmmlacdhoaaDoorW.PrintLast Go.Proofs.YtbkhgmmlacdhoaaDoorW.PrintMore
/-- Where kind and sub-kind end, if the text is a type with its parameters. -/
def mediaK (s : ByteArray) : Option (Nat × Nat) :=
  if runTo s 1 0 = 0 then none
  else if runTo s 1 0 < s.size ∧ bt s (runTo s 1 0 : Nat) = 47 then
    (if runTo s 1 (runTo s 1 0 + 1) = runTo s 1 0 + 1 then none
     else if paramsF (s.size + 1) s (runTo s 1 (runTo s 1 0 + 1)) = true then some (runTo s 1 0, runTo s 1 (runTo s 1 0 + 1)) else none)
  else none
/-- What field.Media answers. -/
def field_Media.f (a0 : ByteArray) : Option (ByteArray × Option Int) :=
  if a0.size ≤ 140737488351232 then
    (match mediaK a0 with
     | none => some ((⟨#[]⟩ : ByteArray), some 2)
     | some (p, q) => (field_low.f (a0.extract 0 p)).bind fun x => (field_low.f (a0.extract (p + 1) q)).bind fun y => if x.size + 1 + y.size ≤ 9223372036854775807 then some ((x ++ (⟨#[47]⟩ : ByteArray)) ++ y, none) else none)
  else none
set_option maxHeartbeats 8000000 in
set_option maxRecDepth 100000 in
theorem field_Media.calls [Sent] (a0 : ByteArray) (r1 : ByteArray) (r2 : Option Int) (w : World) (h : field_Media.f a0 = some (r1, r2)) (hG : Glob [0, 8] w) :
    Calls Tryd.prog 30 #[.string a0] w fun e w' => e = .returned (.tuple #[.string r1, errW r2]) ∧ Below w.heap.size w w' := by
  unfold field_Media.f at h
  by_cases hs : a0.size ≤ 140737488351232
  · rw [if_pos hs] at h
    have HG := Aside0.mk hG
    have HGK := Aside0.mk (hG.sub (by rfl) : Glob [8] w)
    have HC := Aside0.mk (show Cur w.heap.size 84 a0 0 (w.alloc (.cells #[.string a0, .int .i64 0] 84)) from blk_new w _)
    have HB := Aside0.mk (below_alloc (Below.refl w.heap.size w) (.cells #[.string a0, .int .i64 0] 84))
    clear hG
    generalize hK : mediaK a0 = mk at *
    unfold mediaK at hK
    have hem := extract_empty a0 0 (runTo a0 1 0) (Nat.zero_le _) (runTo_le a0 1 0 (Nat.zero_le _))
    have hle := runTo_le a0 1 0 (Nat.zero_le _)
    have HR := Aside0.mk (cursor_run w.heap.size 84 a0 0 1)
    generalize runTo a0 1 0 = p at *
    have H := Aside0.mk h
    have HK := Aside0.mk hK
    clear h hK
    by_cases h0 : p = 0
    · rw [decide_eq_true h0] at hem
      go_enter Tryd.func30, Tryd.ntmps30
      go_wp2_with (fail)
      refine (HR.out _ ?hcu hs (Nat.zero_le _) w HGK.out ?hbw (Nat.le_refl _)).mono ?_
      case hcu => exact HC.out
      case hbw => exact HB.out
      rintro e w1 ⟨rfl, hC1, hO1⟩
      have HC1 := Aside0.mk hC1
      have HB1 := Aside0.mk (HB.out.trans (hO1.below (Nat.le_refl _)))
      clear hC1 hO1
      have ge : w1.cell? ⟨0, 0, none⟩ = some (.iface 155 (.pointer (some (Sent.addr 2)))) := (HG.out.step HB1.out (by rfl) : Glob [0, 8] w1).err2 (by decide)
      generalize hz : a0.extract 0 p = tok at *
      (try dsimp only)
      go_wp2_with (fail)
      repeat (go_quiet (fail); try go_wp2)
      go_ret2
      have hk := HK.out
      rw [if_pos h0] at hk
      subst hk
      have h2 := H.out
      simp only [Option.some.injEq, Prod.mk.injEq] at h2
      obtain ⟨rfl, rfl⟩ := h2
      exact ⟨rfl, by repeat (first | exact HB1.out | apply pw_below_drewN | apply below_drew)⟩
    · rw [decide_eq_false h0] at hem
      by_cases h47 : p < a0.size ∧ bt a0 (p : Int) = 47
      · have hle2 := runTo_le a0 1 (p + 1) (by omega)
        have hem2 := extract_empty a0 (p + 1) (runTo a0 1 (p + 1)) (runTo_ge a0 1 (p + 1)) hle2
        have HR2 := Aside0.mk (cursor_run w.heap.size 84 a0 (p + 1) 1)
        generalize runTo a0 1 (p + 1) = q at *
        by_cases h1 : q = p + 1
        · rw [decide_eq_true h1] at hem2
          go_enter Tryd.func30, Tryd.ntmps30
          go_wp2_with (fail)
          refine (HR.out _ ?hcu hs (Nat.zero_le _) w HGK.out ?hbw (Nat.le_refl _)).mono ?_
          case hcu => exact HC.out
          case hbw => exact HB.out
          rintro e w1 ⟨rfl, hC1, hO1⟩
          have HC1 := Aside0.mk hC1
          have HB1 := Aside0.mk (HB.out.trans (hO1.below (Nat.le_refl _)))
          clear hC1 hO1
          obtain ⟨tok, hz⟩ : ∃ tok, tok = a0.extract 0 p := ⟨_, rfl⟩
          rw [← hz] at hem
          simp only [← hz]
          have HZ := Aside0.mk hz
          clear hz
          (try dsimp only)
          go_wp2_with (fail)
          refine (cursor_eat_yes w.heap.size 84 a0 p 47 _ ?hcu hs h47.1 h47.2).mono ?_
          case hcu => exact HC1.out
          rintro e w2 ⟨rfl, hC2, hO2⟩
          have HC2 := Aside0.mk hC2
          have HB2 := Aside0.mk (HB1.out.trans (hO2.below (Nat.le_refl _)))
          clear hC2 hO2
          (try dsimp only)
          go_wp2_with (fail)
          refine (HR2.out _ ?hcu hs (by omega) w HGK.out ?hbw (Nat.le_refl _)).mono ?_
          case hcu => exact HC2.out
          case hbw => exact HB2.out
          rintro e w3 ⟨rfl, hC3, hO3⟩
          have HC3 := Aside0.mk hC3
          have HB3 := Aside0.mk (HB2.out.trans (hO3.below (Nat.le_refl _)))
          clear hC3 hO3
          obtain ⟨tok2, hz2⟩ : ∃ tok2, tok2 = a0.extract (p + 1) q := ⟨_, rfl⟩
          rw [← hz2] at hem2
          simp only [← hz2]
          have HZ2 := Aside0.mk hz2
          clear hz2
          (try dsimp only)
          have gew3 : w3.cell? ⟨0, 0, none⟩ = some (.iface 155 (.pointer (some (Sent.addr 2)))) := (HG.out.step HB3.out (by rfl) : Glob [0, 8] w3).err2 (by decide)
          go_wp2_with (fail)
          repeat (go_quiet (fail); try go_wp2)
          go_ret2
          have hk := HK.out
          rw [if_neg h0] at hk
          rw [if_pos h47] at hk
          rw [if_pos h1] at hk
          subst hk
          have h2 := H.out
          simp only [Option.some.injEq, Prod.mk.injEq] at h2
          obtain ⟨rfl, rfl⟩ := h2
          exact ⟨rfl, by repeat (first | exact HB3.out | apply pw_below_drewN | apply below_drew)⟩
        · rw [decide_eq_false h1] at hem2
          have HPS := Aside0.mk (media_parameters w.heap.size 84 a0 q)
          generalize hps : paramsF (a0.size + 1) a0 q = ps at *
          cases ps with
          | false =>
            go_enter Tryd.func30, Tryd.ntmps30
            go_wp2_with (fail)
            refine (HR.out _ ?hcu hs (Nat.zero_le _) w HGK.out ?hbw (Nat.le_refl _)).mono ?_
            case hcu => exact HC.out
            case hbw => exact HB.out
            rintro e w1 ⟨rfl, hC1, hO1⟩
            have HC1 := Aside0.mk hC1
            have HB1 := Aside0.mk (HB.out.trans (hO1.below (Nat.le_refl _)))
            clear hC1 hO1
            obtain ⟨tok, hz⟩ : ∃ tok, tok = a0.extract 0 p := ⟨_, rfl⟩
            rw [← hz] at hem
            simp only [← hz]
            have HZ := Aside0.mk hz
            clear hz
            (try dsimp only)
            go_wp2_with (fail)
            refine (cursor_eat_yes w.heap.size 84 a0 p 47 _ ?hcu hs h47.1 h47.2).mono ?_
            case hcu => exact HC1.out
            rintro e w2 ⟨rfl, hC2, hO2⟩
            have HC2 := Aside0.mk hC2
            have HB2 := Aside0.mk (HB1.out.trans (hO2.below (Nat.le_refl _)))
            clear hC2 hO2
            (try dsimp only)
            go_wp2_with (fail)
            refine (HR2.out _ ?hcu hs (by omega) w HGK.out ?hbw (Nat.le_refl _)).mono ?_
            case hcu => exact HC2.out
            case hbw => exact HB2.out
            rintro e w3 ⟨rfl, hC3, hO3⟩
            have HC3 := Aside0.mk hC3
            have HB3 := Aside0.mk (HB2.out.trans (hO3.below (Nat.le_refl _)))
            clear hC3 hO3
            obtain ⟨tok2, hz2⟩ : ∃ tok2, tok2 = a0.extract (p + 1) q := ⟨_, rfl⟩
            rw [← hz2] at hem2
            simp only [← hz2]
            have HZ2 := Aside0.mk hz2
            clear hz2
            (try dsimp only)
            go_wp2_with (fail)
            refine (HPS.out _ ?hcu hs hle2 w HGK.out ?hbw (Nat.le_refl _)).mono ?_
            case hcu => exact HC3.out
            case hbw => exact HB3.out
            rintro e w4 ⟨rfl, hO4⟩
            have HB4 := Aside0.mk (HB3.out.trans (hO4.below (Nat.le_refl _)))
            clear hO4
            (try dsimp only)
            have gew4 : w4.cell? ⟨0, 0, none⟩ = some (.iface 155 (.pointer (some (Sent.addr 2)))) := (HG.out.step HB4.out (by rfl) : Glob [0, 8] w4).err2 (by decide)
            go_wp2_with (fail)
            repeat (go_quiet (fail); try go_wp2)
            go_ret2
            have hk := HK.out
            rw [if_neg h0] at hk
            rw [if_pos h47] at hk
            rw [if_neg h1] at hk
            rw [if_neg (by decide)] at hk
            subst hk
            have h2 := H.out
            simp only [Option.some.injEq, Prod.mk.injEq] at h2
            obtain ⟨rfl, rfl⟩ := h2
            exact ⟨rfl, by repeat (first | exact HB4.out | apply pw_below_drewN | apply below_drew)⟩
          | true =>
            go_enter Tryd.func30, Tryd.ntmps30
            go_wp2_with (fail)
            refine (HR.out _ ?hcu hs (Nat.zero_le _) w HGK.out ?hbw (Nat.le_refl _)).mono ?_
            case hcu => exact HC.out
            case hbw => exact HB.out
            rintro e w1 ⟨rfl, hC1, hO1⟩
            have HC1 := Aside0.mk hC1
            have HB1 := Aside0.mk (HB.out.trans (hO1.below (Nat.le_refl _)))
            clear hC1 hO1
            obtain ⟨tok, hz⟩ : ∃ tok, tok = a0.extract 0 p := ⟨_, rfl⟩
            rw [← hz] at hem
            simp only [← hz]
            have HZ := Aside0.mk hz
            clear hz
            (try dsimp only)
            go_wp2_with (fail)
            refine (cursor_eat_yes w.heap.size 84 a0 p 47 _ ?hcu hs h47.1 h47.2).mono ?_
            case hcu => exact HC1.out
            rintro e w2 ⟨rfl, hC2, hO2⟩
            have HC2 := Aside0.mk hC2
            have HB2 := Aside0.mk (HB1.out.trans (hO2.below (Nat.le_refl _)))
            clear hC2 hO2
            (try dsimp only)
            go_wp2_with (fail)
            refine (HR2.out _ ?hcu hs (by omega) w HGK.out ?hbw (Nat.le_refl _)).mono ?_
            case hcu => exact HC2.out
            case hbw => exact HB2.out
            rintro e w3 ⟨rfl, hC3, hO3⟩
            have HC3 := Aside0.mk hC3
            have HB3 := Aside0.mk (HB2.out.trans (hO3.below (Nat.le_refl _)))
            clear hC3 hO3
            obtain ⟨tok2, hz2⟩ : ∃ tok2, tok2 = a0.extract (p + 1) q := ⟨_, rfl⟩
            rw [← hz2] at hem2
            simp only [← hz2]
            have HZ2 := Aside0.mk hz2
            clear hz2
            (try dsimp only)
            go_wp2_with (fail)
            refine (HPS.out _ ?hcu hs hle2 w HGK.out ?hbw (Nat.le_refl _)).mono ?_
            case hcu => exact HC3.out
            case hbw => exact HB3.out
            rintro e w4 ⟨rfl, hO4⟩
            have HB4 := Aside0.mk (HB3.out.trans (hO4.below (Nat.le_refl _)))
            clear hO4
            (try dsimp only)
            have hk := HK.out
            rw [if_neg h0, if_pos h47, if_neg h1, if_pos (by simp)] at hk
            subst hk
            have h2 := H.out
            dsimp only at h2
            rw [← HZ.out, ← HZ2.out] at h2
            obtain ⟨x, hx, h2⟩ := Option.bind_eq_some_iff.mp h2
            obtain ⟨y, hy, h2⟩ := Option.bind_eq_some_iff.mp h2
            by_cases hxy : x.size + 1 + y.size ≤ 9223372036854775807
            · rw [if_pos hxy] at h2
              have HX := Aside0.mk hx
              have HY := Aside0.mk hy
              have H2 := Aside0.mk h2
              clear hx hy h2
              have hz1 : x.size + 1 ≤ 9223372036854775807 := by omega
              have hz2 : (x ++ (⟨#[47]⟩ : ByteArray)).size + y.size ≤ 9223372036854775807 := by rw [ByteArray.size_append]; exact hxy
              go_wp2_with (fail)
              refine (field_low.calls tok x _ HX.out).mono ?_
              rintro e w5 ⟨rfl, hB5⟩
              have HB5 := Aside0.mk (HB4.out.trans (hB5.mono HB4.out.size))
              clear hB5
              (try dsimp only)
              go_wp2_with (fail)
              refine (field_low.calls tok2 y _ HY.out).mono ?_
              rintro e w6 ⟨rfl, hB6⟩
              have HB6 := Aside0.mk (HB5.out.trans (hB6.mono HB5.out.size))
              clear hB6
              (try dsimp only)
              go_wp2_with (fail)
              go_ret2
              have h3 := H2.out
              simp only [Option.some.injEq, Prod.mk.injEq] at h3
              obtain ⟨rfl, rfl⟩ := h3
              exact ⟨rfl, HB6.out⟩
            · rw [if_neg hxy] at h2
              cases h2
      ·
        go_enter Tryd.func30, Tryd.ntmps30
        go_wp2_with (fail)
        refine (HR.out _ ?hcu hs (Nat.zero_le _) w HGK.out ?hbw (Nat.le_refl _)).mono ?_
        case hcu => exact HC.out
        case hbw => exact HB.out
        rintro e w1 ⟨rfl, hC1, hO1⟩
        have HC1 := Aside0.mk hC1
        have HB1 := Aside0.mk (HB.out.trans (hO1.below (Nat.le_refl _)))
        clear hC1 hO1
        obtain ⟨tok, hz⟩ : ∃ tok, tok = a0.extract 0 p := ⟨_, rfl⟩
        rw [← hz] at hem
        simp only [← hz]
        have HZ := Aside0.mk hz
        clear hz
        (try dsimp only)
        go_wp2_with (fail)
        refine (cursor_eat_no w.heap.size 84 a0 p 47 _ ?hcu h47).mono ?_
        case hcu => exact HC1.out
        rintro e w2 ⟨rfl, ⟨m2, rfl⟩⟩
        (try dsimp only)
        have gew1 : w1.cell? ⟨0, 0, none⟩ = some (.iface 155 (.pointer (some (Sent.addr 2)))) := (HG.out.step HB1.out (by rfl) : Glob [0, 8] w1).err2 (by decide)
        go_wp2_with (fail)
        repeat (go_quiet (fail); try go_wp2)
        go_ret2
        have hk := HK.out
        rw [if_neg h0] at hk
        rw [if_neg h47] at hk
        subst hk
        have h2 := H.out
        simp only [Option.some.injEq, Prod.mk.injEq] at h2
        obtain ⟨rfl, rfl⟩ := h2
        exact ⟨rfl, by repeat (first | exact HB1.out | apply pw_below_drewN | apply below_drew)⟩
  · rw [if_neg hs] at h; cases h
end Go.Proofs.YtbkhgmmlacdhoaaDoor.Q
