/- What pct.Escape (with a plus for a blank) and radix.Std answer. Conditions: a text has at most 1099511627776 bytes. -/
import Derived.Test.YtdlfdmbaejhaaaaDoorQ3
import Derived.Test.YtdlfdmbaejhaaaaDoorQ3
import Derived.Test.YtdlfdmbaejhaaaaDoorTool
import Derived.Test.YtdlfdmbaejhaaaaDoorUnres
set_option linter.unusedVariables false
set_option linter.unusedSimpArgs false
namespace Go.Proofs.YtdlfdmbaejhaaaaDoor.Q
open Go.RowKit Go.Proofs.YtdlfdmbaejhaaaaDoorW.PrintWords Go.Proofs.YtdlfdmbaejhaaaaDoorW.PrintLast Go.Proofs.YtdlfdmbaejhaaaaDoorW.PrintMore
def hexU : ByteArray := ⟨#[48, 49, 50, 51, 52, 53, 54, 55, 56, 57, 65, 66, 67, 68, 69, 70]⟩
/-- How one byte is written. -/
def escI (c : Int) : List Int := if unresB c = true then [c] else if c = 32 then [43] else [37, bt hexU (c / 16), bt hexU (c % 16)]
def escS (l : List Int) : List Int := l.flatMap escI
theorem wrapN (n : Nat) (h : n < 9223372036854775807) : wrap64 ((n : Int) + 1) = ((n + 1 : Nat) : Int) := by rw [wrap64_of (by omega)]; omega
theorem unresP (c : Int) (h : 0 ≤ c ∧ c ≤ 255) : pct_isUnreserved.f c = some (unresB c) := by unfold pct_isUnreserved.f; rw [if_pos ⟨h.1, by omega⟩]
theorem escI_len (c : Int) : (escI c).length ≤ 3 := by
  unfold escI
  split
  · simp
  · split <;> simp
theorem escS_len (l : List Int) : (escS l).length ≤ 3 * l.length := by
  induction l with
  | nil => simp [escS]
  | cons a l ih =>
    have h1 := escI_len a
    have e : escS (a :: l) = escI a ++ escS l := by simp [escS]
    rw [e, List.length_append, List.length_cons]; omega
theorem escI_range (c : Int) (h : 0 ≤ c ∧ c ≤ 255) : ∀ x ∈ escI c, 0 ≤ x ∧ x ≤ 255 := by
  intro x hx
  unfold escI at hx
  split at hx
  · rw [List.mem_singleton] at hx; subst hx; exact h
  · split at hx
    · rw [List.mem_singleton] at hx; subst hx; omega
    · rcases List.mem_cons.1 hx with rfl | hx
      · omega
      · rcases List.mem_cons.1 hx with rfl | hx
        · exact bt_range _ _
        · rw [List.mem_singleton] at hx; subst hx; exact bt_range _ _
theorem escS_range (s : ByteArray) : ∀ x ∈ escS (bytesOf s), 0 ≤ x ∧ x ≤ 255 := by
  intro x hx
  obtain ⟨c, hc, hx⟩ := List.mem_flatMap.1 hx
  exact escI_range c (bytesOf_range hc) x hx
theorem Escape.ev (s : ByteArray) (hs : s.size ≤ 1099511627776) : Ev (fun k => pct_Escape.f k s true) (strOfNums (escS (bytesOf s))) := by
  have hl := bytesOf_length s
  have H : ∀ (d i : Nat) (acc : List Int), i + d = s.size → acc.length ≤ 3 * i → Ev (fun k => pct_Escape.l0 k s true acc (i : Int)) (strOfNums (acc ++ escS ((bytesOf s).drop i))) := by
    intro d
    induction d with
    | zero =>
      intro i acc hi _
      refine Ev.step (f := fun k => some (strOfNums acc)) (fun k => by rw [pct_Escape.l0, if_neg (by omega)]) ?_
      rw [List.drop_eq_nil_of_le (by omega)]
      simpa [escS] using Ev.now _
    | succ d ih =>
      intro i acc hi ha
      have hb := bt_range s (i : Int)
      have hd : (bytesOf s).drop i = bt s (i : Int) :: (bytesOf s).drop (i + 1) := by
        rw [bt_nat]; exact drop_cons _ i 0 (by omega)
      have he : escS ((bytesOf s).drop i) = escI (bt s (i : Int)) ++ escS ((bytesOf s).drop (i + 1)) := by rw [hd]; simp [escS]
      have hbig : (acc ++ [(0 : Int), 0, 0]).length < 140737488355328 := by simp; omega
      simp only [List.length_append, List.length_cons, List.length_nil] at hbig
      refine Ev.step (fun k => rfl) ?_
      simp only [pct_Escape.l0]
      refine Ev.if_pos (by omega) (Ev.if_pos (by omega) ?_)
      simp only [unresP _ hb, Option.bind_some, wrapN i (by omega)]
      rw [he]
      have hnext : ∀ x : List Int, x.length ≤ 3 → Ev (fun k => pct_Escape.l0 k s true (acc ++ x) ((i + 1 : Nat) : Int)) (strOfNums (acc ++ (x ++ escS ((bytesOf s).drop (i + 1))))) := by
        intro x hx
        rw [← List.append_assoc]
        exact ih (i + 1) (acc ++ x) (by omega) (by rw [List.length_append]; omega)
      by_cases hu : unresB (bt s (i : Int)) = true
      · have e : escI (bt s (i : Int)) = [bt s (i : Int)] := by unfold escI; rw [if_pos hu]
        rw [e]
        exact Ev.if_pos hu (Ev.if_pos (by omega) (hnext _ (by simp)))
      · refine Ev.if_neg hu ?_
        by_cases h32 : bt s (i : Int) = 32
        · have e : escI (bt s (i : Int)) = [43] := by unfold escI; rw [if_neg hu, if_pos h32]
          rw [e]
          refine Ev.if_pos h32 (Ev.step (fun k => rfl) ?_)
          simp only [pct_Escape.j1, wrapN i (by omega)]
          exact Ev.if_pos (by simp) (Ev.if_pos (by omega) (hnext _ (by simp)))
        · have e : escI (bt s (i : Int)) = [37, bt hexU (bt s (i : Int) / 16), bt hexU (bt s (i : Int) % 16)] := by unfold escI; rw [if_neg hu, if_neg h32]
          rw [e]
          refine Ev.if_neg h32 (Ev.step (fun k => rfl) ?_)
          simp only [pct_Escape.j1, wrapN i (by omega), Option.bind_some, u8_and15 _ hb.1 (Int.lt_of_le_of_lt hb.2 (by decide)), List.length_append, List.length_cons, List.length_nil, List.append_assoc, List.cons_append, List.nil_append]
          refine Ev.if_neg (by simp) ?_
          refine Ev.if_pos (by omega) (Ev.if_pos (by omega) (Ev.if_pos (by omega) (Ev.if_pos (by omega) (Ev.if_pos (by omega) (Ev.if_pos (by omega) (Ev.if_pos (by omega) ?_))))))
          exact hnext [37, bt hexU (bt s (i : Int) / 16), bt hexU (bt s (i : Int) % 16)] (by simp)
  have := H s.size 0 [] (by omega) (by simp)
  simpa [pct_Escape.f] using this
theorem escS_size (s : ByteArray) : (strOfNums (escS (bytesOf s))).size ≤ 3 * s.size := by
  have h1 := escS_len (bytesOf s)
  have h2 := bytesOf_length s
  rw [size_eq, bytesOf_strOfNums (escS_range s)]
  omega

theorem wraps_u32 (n : Int) (h₀ : 0 ≤ n) (h₁ : n < 2 ^ 32) : IntKind.u32.wrap n = n := by rw [IntKind.wrap_u32]; omega
theorem u32_or16 (x y : Int) (hx₀ : 0 ≤ x) (hx : x % 65536 = 0) (hx₁ : x < 4294967296) (h₀ : 0 ≤ y) (h₁ : y < 65536) : Go.bits .or .u32 x y = x + y :=
  bits_join .u32 32 (by decide) wraps_u32 16 x y hx₀ hx hx₁ h₀ h₁ (by omega)
theorem u32_or8 (x y : Int) (hx₀ : 0 ≤ x) (hx : x % 256 = 0) (hx₁ : x < 4294967296) (h₀ : 0 ≤ y) (h₁ : y < 256) : Go.bits .or .u32 x y = x + y :=
  bits_join .u32 32 (by decide) wraps_u32 8 x y hx₀ hx hx₁ h₀ h₁ (by omega)
theorem u32_comm (x y : Int) (hx₀ : 0 ≤ x) (hx₁ : x < 4294967296) (h₀ : 0 ≤ y) (h₁ : y < 4294967296) : Go.bits .or .u32 x y = Go.bits .or .u32 y x := by
  obtain ⟨a, rfl⟩ := Int.eq_ofNat_of_zero_le hx₀
  obtain ⟨b, rfl⟩ := Int.eq_ofNat_of_zero_le h₀
  have ha : a < 2 ^ 32 := by omega
  have hb : b < 2 ^ 32 := by omega
  rw [(bits_nat .u32 32 (by decide) wraps_u32 a b ha hb).2, (bits_nat .u32 32 (by decide) wraps_u32 b a hb ha).2, Nat.or_comm]
theorem u32_and63 (x : Int) (h₀ : 0 ≤ x) (h₁ : x < 4294967296) : Go.bits .and .u32 x 63 = x % 64 := bits_mask .u32 32 (by decide) wraps_u32 6 (by decide) x h₀ h₁
theorem three (a b c : Int) (ha : 0 ≤ a ∧ a ≤ 255) (hb : 0 ≤ b ∧ b ≤ 255) (hc : 0 ≤ c ∧ c ≤ 255) :
    Go.bits .or .u32 (Go.bits .or .u32 (((a % 4294967296) * 65536) % 4294967296) (((b % 4294967296) * 256) % 4294967296)) (c % 4294967296) = a * 65536 + b * 256 + c := by
  have e1 : ((a % 4294967296) * 65536) % 4294967296 = a * 65536 := by omega
  have e2 : ((b % 4294967296) * 256) % 4294967296 = b * 256 := by omega
  have e3 : c % 4294967296 = c := by omega
  rw [e1, e2, e3, u32_or16 (a * 65536) (b * 256) (by omega) (by omega) (by omega) (by omega) (by omega), u32_or8 (a * 65536 + b * 256) c (by omega) (by omega) (by omega) (by omega) (by omega)]
theorem two (a b : Int) (ha : 0 ≤ a ∧ a ≤ 255) (hb : 0 ≤ b ∧ b ≤ 255) :
    Go.bits .or .u32 (((b % 4294967296) * 256) % 4294967296) (((a % 4294967296) * 65536) % 4294967296) = a * 65536 + b * 256 := by
  have e1 : ((a % 4294967296) * 65536) % 4294967296 = a * 65536 := by omega
  have e2 : ((b % 4294967296) * 256) % 4294967296 = b * 256 := by omega
  rw [e1, e2, u32_comm _ _ (by omega) (by omega) (by omega) (by omega), u32_or16 _ _ (by omega) (by omega) (by omega) (by omega) (by omega)]
theorem one_ (a : Int) (ha : 0 ≤ a ∧ a ≤ 255) : Go.bits .or .u32 0 (((a % 4294967296) * 65536) % 4294967296) = a * 65536 := by
  have e1 : ((a % 4294967296) * 65536) % 4294967296 = a * 65536 := by omega
  rw [e1, u32_comm _ _ (by omega) (by omega) (by omega) (by omega), u32_or16 _ _ (by omega) (by omega) (by omega) (by omega) (by omega), Int.add_zero]
theorem wrapZ {x y : Int} (h : x = y) (r : -9223372036854775808 ≤ y ∧ y ≤ 9223372036854775807) : wrap64 x = y := by subst h; exact wrap64_of r
theorem wrap3 (i : Nat) (h : i < 1099511627776) : wrap64 (3 * (i : Int)) = ((3 * i : Nat) : Int) := wrapZ (by omega) (by omega)
theorem wrapN2 (n : Nat) (h : n < 9223372036854775806) : wrap64 ((n : Int) + 2) = ((n + 2 : Nat) : Int) := wrapZ (by omega) (by omega)
/-- Three bytes, four letters. -/
def encL (al : ByteArray) : List Int → List Int
  | [] => []
  | [a] => [bt al (a / 4), bt al (a % 4 * 16)]
  | [a, b] => [bt al (a / 4), bt al (a % 4 * 16 + b / 16), bt al (b % 16 * 4)]
  | a :: b :: c :: r => bt al (a / 4) :: bt al (a % 4 * 16 + b / 16) :: bt al (b % 16 * 4 + c / 64) :: bt al (c % 64) :: encL al r
theorem encL_len (al : ByteArray) : ∀ (n : Nat) (l : List Int), l.length ≤ n → (encL al l).length ≤ 2 * l.length ∧ (encL al l).length % 4 ≠ 1 := by
  intro n
  induction n with
  | zero => intro l h; cases l with
    | nil => simp [encL]
    | cons a l => simp at h
  | succ n ih =>
    intro l h
    match l, h with
    | [], _ => simp [encL]
    | [a], _ => simp [encL]
    | [a, b], _ => simp [encL]
    | a :: b :: c :: r, h =>
      have := ih r (by simp only [List.length_cons] at h; omega)
      simp only [encL, List.length_cons]
      omega
theorem encL_range (al : ByteArray) : ∀ (n : Nat) (l : List Int), l.length ≤ n → ∀ x ∈ encL al l, 0 ≤ x ∧ x ≤ 255 := by
  intro n
  induction n with
  | zero => intro l h; cases l with
    | nil => intro x hx; simp [encL] at hx
    | cons a l => simp at h
  | succ n ih =>
    intro l h x hx
    match l, h with
    | [], _ => simp [encL] at hx
    | [a], _ =>
      simp only [encL, List.mem_cons, List.not_mem_nil, or_false] at hx
      rcases hx with rfl | rfl <;> exact bt_range _ _
    | [a, b], _ =>
      simp only [encL, List.mem_cons, List.not_mem_nil, or_false] at hx
      rcases hx with rfl | rfl | rfl <;> exact bt_range _ _
    | a :: b :: c :: r, h =>
      simp only [encL, List.mem_cons] at hx
      rcases hx with rfl | rfl | rfl | rfl | hx
      · exact bt_range _ _
      · exact bt_range _ _
      · exact bt_range _ _
      · exact bt_range _ _
      · exact ih r (by simp only [List.length_cons] at h; omega) x hx
theorem write.evj2 (al p : ByteArray) (hal : al.size = 64) (acc : List Int) (hacc : acc.length < 140737488355328) (n : Int) (hn : 0 ≤ n ∧ n < 4294967296) :
    Ev (fun k => radix_write.j2 k al acc p n) (strOfNums (if p.size = 2 then acc ++ [bt al (n / 64 % 64)] else acc)) := by
  refine Ev.step (fun k => rfl) ?_
  simp only [radix_write.j2, u32_and63 (n / 64) (by omega) (by omega)]
  by_cases h : p.size = 2
  · rw [if_pos h]
    exact Ev.if_pos (by omega) (Ev.if_pos (by omega) (Ev.if_pos (by omega) (Ev.if_pos hacc (Ev.now _))))
  · rw [if_neg h]
    exact Ev.if_neg (by omega) (Ev.now _)
theorem write.evj1 (al p : ByteArray) (hal : al.size = 64) (acc : List Int) (hacc : acc.length + 4 < 140737488355328) (hp : p.size ≤ 2) :
    Ev (fun k => radix_write.j1 k al acc p) (strOfNums (acc ++ encL al (bytesOf p))) := by
  have hl := bytesOf_length p
  have ha := bt_range p 0
  have hb := bt_range p 1
  have e0 := bt_nat p 0
  have e1 := bt_nat p 1
  refine Ev.step (fun k => rfl) ?_
  simp only [radix_write.j1, two _ _ ha hb, one_ _ ha]
  match hm : bytesOf p with
  | [] =>
    rw [hm] at hl
    simp only [List.length_nil] at hl
    refine Ev.if_neg (by omega) (Ev.if_neg (by omega) ?_)
    refine Ev.eq (write.evj2 al p hal acc (by omega) 0 (by omega)) ?_
    rw [if_neg (by omega)]; simp [encL]
  | [a] =>
    rw [hm] at hl e0
    simp only [List.length_cons, List.length_nil] at hl
    have e0 : bt p 0 = a := e0
    rw [e0] at ha
    simp only [e0]
    have hA : Go.bits .and .u32 (a * 65536 / 4096) 63 = a % 4 * 16 := by rw [u32_and63 _ (by omega) (by omega)]; omega
    have hB : a * 65536 / 262144 = a / 4 := by omega
    simp only [hA, hB, Option.bind_some, List.length_append, List.length_cons, List.length_nil, List.append_assoc, List.cons_append, List.nil_append]
    refine Ev.if_neg (by omega) (Ev.if_pos (by omega) (Ev.if_pos (by omega) (Ev.if_pos (by omega) (Ev.if_pos (by omega) (Ev.if_pos (by omega) (Ev.if_pos (by omega) (Ev.if_pos (by omega) (Ev.if_pos (by omega) ?_))))))))
    refine Ev.eq (write.evj2 al p hal _ (by simp only [List.length_append, List.length_cons, List.length_nil]; omega) (a * 65536) (by omega)) ?_
    rw [if_neg (by omega)]; rfl
  | [a, b] =>
    rw [hm] at hl e0 e1
    simp only [List.length_cons, List.length_nil] at hl
    have e0 : bt p 0 = a := e0
    have e1 : bt p 1 = b := e1
    rw [e0] at ha
    rw [e1] at hb
    simp only [e0, e1]
    have hA : Go.bits .and .u32 ((a * 65536 + b * 256) / 4096) 63 = a % 4 * 16 + b / 16 := by rw [u32_and63 _ (by omega) (by omega)]; omega
    have hB : (a * 65536 + b * 256) / 262144 = a / 4 := by omega
    have hC : (a * 65536 + b * 256) / 64 % 64 = b % 16 * 4 := by omega
    simp only [hA, hB, Option.bind_some, List.length_append, List.length_cons, List.length_nil, List.append_assoc, List.cons_append, List.nil_append]
    refine Ev.if_pos (by omega) (Ev.if_pos (by omega) (Ev.if_pos (by omega) (Ev.if_pos (by omega) (Ev.if_pos (by omega) (Ev.if_pos (by omega) (Ev.if_pos (by omega) (Ev.if_pos (by omega) (Ev.if_pos (by omega) ?_))))))))
    refine Ev.eq (write.evj2 al p hal _ (by simp only [List.length_append, List.length_cons, List.length_nil]; omega) (a * 65536 + b * 256) (by omega)) ?_
    rw [if_pos (by omega), hC, List.append_assoc]; rfl
  | a :: b :: c :: r =>
    rw [hm] at hl
    simp only [List.length_cons] at hl
    omega
theorem write.ev (al p : ByteArray) (hal : al.size = 64) (hs : p.size ≤ 1099511627776) : Ev (fun k => radix_write.f k al p) (strOfNums (encL al (bytesOf p))) := by
  have hl := bytesOf_length p
  obtain ⟨W, hW⟩ : ∃ W, p.size / 3 = W := ⟨_, rfl⟩
  have hwt : wrap64 ((p.size : Int) / 3) = (W : Int) := wrapZ (by omega) (by omega)
  have hw := Aside0.mk hwt
  clear hwt
  have H : ∀ (d i : Nat) (acc : List Int), i + d = W → acc.length ≤ 4 * i → Ev (fun k => radix_write.l0 k al p acc (W : Int) (W : Int) (i : Int)) (strOfNums (acc ++ encL al ((bytesOf p).drop (3 * i)))) := by
    intro d
    induction d with
    | zero =>
      intro i acc hi ha
      refine Ev.step (f := fun k => radix_write.j1 k al acc (p.extract (3 * W) p.size)) (fun k => by rw [radix_write.l0, if_neg (by omega)]; simp only [wrap3 W (by omega), Int.toNat_natCast]; rw [if_pos (by omega), if_pos (by omega)]) ?_
      have hz : (p.extract (3 * W) p.size).size ≤ 2 := by rw [ByteArray.size_extract]; omega
      have := write.evj1 al (p.extract (3 * W) p.size) hal acc (by omega) hz
      rw [bytesOf_extract_to_end] at this
      rwa [show 3 * i = 3 * W by omega]
    | succ d ih =>
      intro i acc hi ha
      have hd : (bytesOf p).drop (3 * i) = bt p ((3 * i : Nat) : Int) :: bt p ((3 * i + 1 : Nat) : Int) :: bt p ((3 * i + 2 : Nat) : Int) :: (bytesOf p).drop (3 * (i + 1)) := by
        rw [bt_nat, bt_nat, bt_nat, drop_cons _ (3 * i) 0 (by omega), drop_cons _ (3 * i + 1) 0 (by omega), drop_cons _ (3 * i + 1 + 1) 0 (by omega), show 3 * (i + 1) = 3 * i + 1 + 1 + 1 by omega]
      rw [hd]
      have hA := bt_range p ((3 * i : Nat) : Int)
      have hB := bt_range p ((3 * i + 1 : Nat) : Int)
      have hC := bt_range p ((3 * i + 2 : Nat) : Int)
      refine Ev.step (fun k => rfl) ?_
      simp only [radix_write.l0, wrap3 i (by omega), wrapN (3 * i) (by omega), wrapN2 (3 * i) (by omega), wrapN i (by omega), three _ _ _ hA hB hC]
      generalize bt p ((3 * i : Nat) : Int) = a at *
      generalize bt p ((3 * i + 1 : Nat) : Int) = b at *
      generalize bt p ((3 * i + 2 : Nat) : Int) = c at *
      have f1 : (a * 65536 + b * 256 + c) / 262144 = a / 4 := by omega
      have f2 : Go.bits .and .u32 ((a * 65536 + b * 256 + c) / 4096) 63 = a % 4 * 16 + b / 16 := by rw [u32_and63 _ (by omega) (by omega)]; omega
      have f3 : Go.bits .and .u32 ((a * 65536 + b * 256 + c) / 64) 63 = b % 16 * 4 + c / 64 := by rw [u32_and63 _ (by omega) (by omega)]; omega
      have f4 : Go.bits .and .u32 (a * 65536 + b * 256 + c) 63 = c % 64 := by rw [u32_and63 _ (by omega) (by omega)]; omega
      simp only [f1, f2, f3, f4, Option.bind_some, List.length_append, List.length_cons, List.length_nil, List.append_assoc, List.cons_append, List.nil_append]
      clear f1 f2 f3 f4
      refine Ev.if_pos (by omega) (Ev.if_pos (by omega) (Ev.if_pos (by omega) (Ev.if_pos (by omega) (Ev.if_pos (by omega) (Ev.if_pos (by omega) (Ev.if_pos (by omega) ?_))))))
      refine Ev.if_pos (by omega) (Ev.if_pos (by omega) (Ev.if_pos (by omega) (Ev.if_pos (by omega) (Ev.if_pos (by omega) (Ev.if_pos (by omega) (Ev.if_pos (by omega) (Ev.if_pos (by omega) (Ev.if_pos (by omega) (Ev.if_pos (by omega) (Ev.if_pos (by omega) (Ev.if_pos (by omega) ?_)))))))))))
      have := ih (i + 1) (acc ++ [bt al (a / 4), bt al (a % 4 * 16 + b / 16), bt al (b % 16 * 4 + c / 64), bt al (c % 64)]) (by omega) (by simp only [List.length_append, List.length_cons, List.length_nil]; omega)
      simpa only [encL, List.append_assoc, List.cons_append, List.nil_append] using this
  have := H W 0 [] (by omega) (by simp)
  simp only [radix_write.f, hw.out]
  simpa using this
def stdU : ByteArray := ⟨#[65, 66, 67, 68, 69, 70, 71, 72, 73, 74, 75, 76, 77, 78, 79, 80, 81, 82, 83, 84, 85, 86, 87, 88, 89, 90, 97, 98, 99, 100, 101, 102, 103, 104, 105, 106, 107, 108, 109, 110, 111, 112, 113, 114, 115, 116, 117, 118, 119, 120, 121, 122, 48, 49, 50, 51, 52, 53, 54, 55, 56, 57, 43, 47]⟩
/-- What Std writes. -/
def stdS (p : ByteArray) : ByteArray :=
  if (strOfNums (encL stdU (bytesOf p))).size % 4 = 2 then strOfNums (encL stdU (bytesOf p)) ++ (⟨#[61, 61]⟩ : ByteArray)
  else if (strOfNums (encL stdU (bytesOf p))).size % 4 = 3 then strOfNums (encL stdU (bytesOf p)) ++ (⟨#[61]⟩ : ByteArray)
  else strOfNums (encL stdU (bytesOf p))
theorem enc_size (p : ByteArray) : (strOfNums (encL stdU (bytesOf p))).size ≤ 2 * p.size ∧ (strOfNums (encL stdU (bytesOf p))).size % 4 ≠ 1 := by
  have h1 := encL_len stdU _ (bytesOf p) (Nat.le_refl _)
  have h2 := bytesOf_length p
  rw [size_eq, bytesOf_strOfNums (encL_range stdU _ _ (Nat.le_refl _))]
  omega
theorem stdS_size (p : ByteArray) : (stdS p).size ≤ 2 * p.size + 2 := by
  have h := enc_size p
  unfold stdS
  split
  · rw [ByteArray.size_append]; show _ + 2 ≤ _; omega
  · split
    · rw [ByteArray.size_append]; show _ + 1 ≤ _; omega
    · omega
theorem pad0 (w : ByteArray) (h : w.size % 4 = 0) : Ev (fun k => radix_Std.l0 k w) w := by
  refine Ev.step (fun k => rfl) ?_
  simp only [radix_Std.l0]
  exact Ev.if_pos (by omega) (Ev.now _)
theorem pad1 (w : ByteArray) (hw : w.size ≤ 1099511627776000) (h : w.size % 4 ≠ 0) {r : ByteArray} (hr : Ev (fun k => radix_Std.l0 k (w ++ (⟨#[61]⟩ : ByteArray))) r) : Ev (fun k => radix_Std.l0 k w) r := by
  refine Ev.step (fun k => rfl) ?_
  simp only [radix_Std.l0]
  exact Ev.if_neg (by omega) (Ev.if_pos (by omega) hr)
theorem Std.ev (p : ByteArray) (hs : p.size ≤ 1099511627776) : Ev (fun k => radix_Std.f k p) (stdS p) := by
  have hz := enc_size p
  simp only [radix_Std.f]
  have hw : Ev (fun k => radix_write.f k stdU p) (strOfNums (encL stdU (bytesOf p))) := write.ev stdU p rfl hs
  refine hw.bind ?_
  unfold stdS
  generalize strOfNums (encL stdU (bytesOf p)) = w at *
  have e1 : (w ++ (⟨#[61]⟩ : ByteArray)).size = w.size + 1 := by rw [ByteArray.size_append]; rfl
  have e2 : (w ++ (⟨#[61]⟩ : ByteArray) ++ (⟨#[61]⟩ : ByteArray)).size = w.size + 1 + 1 := by rw [ByteArray.size_append, e1]; rfl
  by_cases h2 : w.size % 4 = 2
  · rw [if_pos h2]
    refine pad1 w (by omega) (by omega) (pad1 _ (by omega) (by omega) ?_)
    have e : w ++ (⟨#[61]⟩ : ByteArray) ++ (⟨#[61]⟩ : ByteArray) = w ++ (⟨#[61, 61]⟩ : ByteArray) := by rw [ByteArray.append_assoc]; rfl
    rw [← e]
    exact pad0 _ (by omega)
  · rw [if_neg h2]
    by_cases h3 : w.size % 4 = 3
    · rw [if_pos h3]
      exact pad1 w (by omega) (by omega) (pad0 _ (by omega))
    · rw [if_neg h3]
      exact pad0 w (by omega)
end Go.Proofs.YtdlfdmbaejhaaaaDoor.Q
