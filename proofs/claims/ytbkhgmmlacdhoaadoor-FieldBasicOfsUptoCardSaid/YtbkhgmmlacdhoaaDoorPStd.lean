/- What radix.Std and the document's own answer; FieldBasicOfs answers true. Conditions: what goes in has at most 1048576 bytes in all. -/
import Derived.Test.YtbkhgmmlacdhoaaDoorQ9
import Derived.Test.YtbkhgmmlacdhoaaDoorPEsc
set_option linter.unusedVariables false
set_option linter.unusedSimpArgs false
namespace Go.Proofs.YtbkhgmmlacdhoaaDoor.Q
open Go.RowKit Go.Proofs.YtbkhgmmlacdhoaaDoorW.PrintWords Go.Proofs.YtbkhgmmlacdhoaaDoorW.PrintLast Go.Proofs.YtbkhgmmlacdhoaaDoorW.PrintMore
/-! ### numbers of 32 bits -/
theorem wraps_u32 (n : Int) (h₀ : 0 ≤ n) (h₁ : n < 2 ^ 32) : IntKind.u32.wrap n = n := by rw [IntKind.wrap_u32]; omega
theorem u32_or16 (x y : Int) (hx₀ : 0 ≤ x) (hx : x % 65536 = 0) (hx₁ : x < 4294967296) (h₀ : 0 ≤ y) (h₁ : y < 65536) : Go.bits .or .u32 x y = x + y :=
  bits_join .u32 32 (by decide) wraps_u32 16 x y hx₀ hx hx₁ h₀ h₁ (by omega)
theorem u32_or8 (x y : Int) (hx₀ : 0 ≤ x) (hx : x % 256 = 0) (hx₁ : x < 4294967296) (h₀ : 0 ≤ y) (h₁ : y < 256) : Go.bits .or .u32 x y = x + y :=
  bits_join .u32 32 (by decide) wraps_u32 8 x y hx₀ hx hx₁ h₀ h₁ (by omega)
theorem u32_comm (x y : Int) (hx₀ : 0 ≤ x) (hx₁ : x < 4294967296) (h₀ : 0 ≤ y) (h₁ : y < 4294967296) : Go.bits .or .u32 x y = Go.bits .or .u32 y x := by
  obtain ⟨a, rfl⟩ := Int.eq_ofNat_of_zero_le hx₀
  obtain ⟨b, rfl⟩ := Int.eq_ofNat_of_zero_le h₀
  have ha : a < 2 ^ 32 := by omega
  have hb : b < 2 ^ 32 := by omega
  rw [(bits_nat .u32 32 (by decide) wraps_u32 a b ha hb).2, (bits_nat .u32 32 (by decide) wraps_u32 b a hb ha).2, Nat.or_comm]
theorem u32_and63 (x : Int) (h₀ : 0 ≤ x) (h₁ : x < 4294967296) : Go.bits .and .u32 x 63 = x % 64 := bits_mask .u32 32 (by decide) wraps_u32 6 (by decide) x h₀ h₁
theorem three (a b c : Int) (ha : 0 ≤ a ∧ a ≤ 255) (hb : 0 ≤ b ∧ b ≤ 255) (hc : 0 ≤ c ∧ c ≤ 255) :
    Go.bits .or .u32 (Go.bits .or .u32 (((a % 4294967296) * 65536) % 4294967296) (((b % 4294967296) * 256) % 4294967296)) (c % 4294967296) = a * 65536 + b * 256 + c := by
  have e1 : ((a % 4294967296) * 65536) % 4294967296 = a * 65536 := by omega
  have e2 : ((b % 4294967296) * 256) % 4294967296 = b * 256 := by omega
  have e3 : c % 4294967296 = c := by omega
  rw [e1, e2, e3, u32_or16 (a * 65536) (b * 256) (by omega) (by omega) (by omega) (by omega) (by omega), u32_or8 (a * 65536 + b * 256) c (by omega) (by omega) (by omega) (by omega) (by omega)]
theorem two (a b : Int) (ha : 0 ≤ a ∧ a ≤ 255) (hb : 0 ≤ b ∧ b ≤ 255) :
    Go.bits .or .u32 (((b % 4294967296) * 256) % 4294967296) (((a % 4294967296) * 65536) % 4294967296) = a * 65536 + b * 256 := by
  have e1 : ((a % 4294967296) * 65536) % 4294967296 = a * 65536 := by omega
  have e2 : ((b % 4294967296) * 256) % 4294967296 = b * 256 := by omega
  rw [e1, e2, u32_comm _ _ (by omega) (by omega) (by omega) (by omega), u32_or16 _ _ (by omega) (by omega) (by omega) (by omega) (by omega)]
theorem one_ (a : Int) (ha : 0 ≤ a ∧ a ≤ 255) : Go.bits .or .u32 0 (((a % 4294967296) * 65536) % 4294967296) = a * 65536 := by
  have e1 : ((a % 4294967296) * 65536) % 4294967296 = a * 65536 := by omega
  rw [e1, u32_comm _ _ (by omega) (by omega) (by omega) (by omega), u32_or16 _ _ (by omega) (by omega) (by omega) (by omega) (by omega), Int.add_zero]
theorem wrapZ {x y : Int} (h : x = y) (r : -9223372036854775808 ≤ y ∧ y ≤ 9223372036854775807) : wrap64 x = y := by subst h; exact wrap64_of r
theorem wrap3 (i : Nat) (h : i < 1099511627776) : wrap64 (3 * (i : Int)) = ((3 * i : Nat) : Int) := wrapZ (by omega) (by omega)
theorem wrapN2 (n : Nat) (h : n < 9223372036854775806) : wrap64 ((n : Int) + 2) = ((n + 2 : Nat) : Int) := wrapZ (by omega) (by omega)
/-! ### letters -/
/-- Three bytes, four letters. -/
def encL (al : ByteArray) : List Int → List Int
  | [] => []
  | [a] => [bt al (a / 4), bt al (a % 4 * 16)]
  | [a, b] => [bt al (a / 4), bt al (a % 4 * 16 + b / 16), bt al (b % 16 * 4)]
  | a :: b :: c :: r => bt al (a / 4) :: bt al (a % 4 * 16 + b / 16) :: bt al (b % 16 * 4 + c / 64) :: bt al (c % 64) :: encL al r
theorem encL_len (al : ByteArray) : ∀ (n : Nat) (l : List Int), l.length ≤ n → (encL al l).length ≤ 2 * l.length ∧ (encL al l).length % 4 ≠ 1 := by
  intro n
  induction n with
  | zero => intro l h; cases l with
    | nil => simp [encL]
    | cons a l => simp at h
  | succ n ih =>
    intro l h
    match l, h with
    | [], _ => simp [encL]
    | [a], _ => simp [encL]
    | [a, b], _ => simp [encL]
    | a :: b :: c :: r, h =>
      have := ih r (by simp only [List.length_cons] at h; omega)
      simp only [encL, List.length_cons]
      omega
theorem encL_range (al : ByteArray) : ∀ (n : Nat) (l : List Int), l.length ≤ n → ∀ x ∈ encL al l, 0 ≤ x ∧ x ≤ 255 := by
  intro n
  induction n with
  | zero => intro l h; cases l with
    | nil => intro x hx; simp [encL] at hx
    | cons a l => simp at h
  | succ n ih =>
    intro l h x hx
    match l, h with
    | [], _ => simp [encL] at hx
    | [a], _ =>
      simp only [encL, List.mem_cons, List.not_mem_nil, or_false] at hx
      rcases hx with rfl | rfl <;> exact bt_range _ _
    | [a, b], _ =>
      simp only [encL, List.mem_cons, List.not_mem_nil, or_false] at hx
      rcases hx with rfl | rfl | rfl <;> exact bt_range _ _
    | a :: b :: c :: r, h =>
      simp only [encL, List.mem_cons] at hx
      rcases hx with rfl | rfl | rfl | rfl | hx
      · exact bt_range _ _
      · exact bt_range _ _
      · exact bt_range _ _
      · exact bt_range _ _
      · exact ih r (by simp only [List.length_cons] at h; omega) x hx
theorem write.evj2 (al p : ByteArray) (hal : al.size = 64) (acc : List Int) (hacc : acc.length < 140737488355328) (n : Int) (hn : 0 ≤ n ∧ n < 4294967296) :
    Ev (fun k => radix_write.j2 k al acc p n) (strOfNums (if p.size = 2 then acc ++ [bt al (n / 64 % 64)] else acc)) := by
  refine Ev.step (fun k => rfl) ?_
  simp only [radix_write.j2, u32_and63 (n / 64) (by omega) (by omega)]
  by_cases h : p.size = 2
  · rw [if_pos h]
    exact Ev.if_pos (by omega) (Ev.if_pos (by omega) (Ev.if_pos (by omega) (Ev.if_pos hacc (Ev.now _))))
  · rw [if_neg h]
    exact Ev.if_neg (by omega) (Ev.now _)
theorem write.evj1 (al p : ByteArray) (hal : al.size = 64) (acc : List Int) (hacc : acc.length + 4 < 140737488355328) (hp : p.size ≤ 2) :
    Ev (fun k => radix_write.j1 k al acc p) (strOfNums (acc ++ encL al (bytesOf p))) := by
  have hl := bytesOf_length p
  have ha := bt_range p 0
  have hb := bt_range p 1
  have e0 := bt_nat p 0
  have e1 := bt_nat p 1
  refine Ev.step (fun k => rfl) ?_
  simp only [radix_write.j1, two _ _ ha hb, one_ _ ha]
  match hm : bytesOf p with
  | [] =>
    rw [hm] at hl
    simp only [List.length_nil] at hl
    refine Ev.if_neg (by omega) (Ev.if_neg (by omega) ?_)
    refine Ev.eq (write.evj2 al p hal acc (by omega) 0 (by omega)) ?_
    rw [if_neg (by omega)]; simp [encL]
  | [a] =>
    rw [hm] at hl e0
    simp only [List.length_cons, List.length_nil] at hl
    have e0 : bt p 0 = a := e0
    rw [e0] at ha
    simp only [e0]
    have hA : Go.bits .and .u32 (a * 65536 / 4096) 63 = a % 4 * 16 := by rw [u32_and63 _ (by omega) (by omega)]; omega
    have hB : a * 65536 / 262144 = a / 4 := by omega
    simp only [hA, hB, Option.bind_some, List.length_append, List.length_cons, List.length_nil, List.append_assoc, List.cons_append, List.nil_append]
    refine Ev.if_neg (by omega) (Ev.if_pos (by omega) (Ev.if_pos (by omega) (Ev.if_pos (by omega) (Ev.if_pos (by omega) (Ev.if_pos (by omega) (Ev.if_pos (by omega) (Ev.if_pos (by omega) (Ev.if_pos (by omega) ?_))))))))
    refine Ev.eq (write.evj2 al p hal _ (by simp only [List.length_append, List.length_cons, List.length_nil]; omega) (a * 65536) (by omega)) ?_
    rw [if_neg (by omega)]; rfl
  | [a, b] =>
    rw [hm] at hl e0 e1
    simp only [List.length_cons, List.length_nil] at hl
    have e0 : bt p 0 = a := e0
    have e1 : bt p 1 = b := e1
    rw [e0] at ha
    rw [e1] at hb
    simp only [e0, e1]
    have hA : Go.bits .and .u32 ((a * 65536 + b * 256) / 4096) 63 = a % 4 * 16 + b / 16 := by rw [u32_and63 _ (by omega) (by omega)]; omega
    have hB : (a * 65536 + b * 256) / 262144 = a / 4 := by omega
    have hC : (a * 65536 + b * 256) / 64 % 64 = b % 16 * 4 := by omega
    simp only [hA, hB, Option.bind_some, List.length_append, List.length_cons, List.length_nil, List.append_assoc, List.cons_append, List.nil_append]
    refine Ev.if_pos (by omega) (Ev.if_pos (by omega) (Ev.if_pos (by omega) (Ev.if_pos (by omega) (Ev.if_pos (by omega) (Ev.if_pos (by omega) (Ev.if_pos (by omega) (Ev.if_pos (by omega) (Ev.if_pos (by omega) ?_))))))))
    refine Ev.eq (write.evj2 al p hal _ (by simp only [List.length_append, List.length_cons, List.length_nil]; omega) (a * 65536 + b * 256) (by omega)) ?_
    rw [if_pos (by omega), hC, List.append_assoc]; rfl
  | a :: b :: c :: r =>
    rw [hm] at hl
    simp only [List.length_cons] at hl
    omega
theorem write.ev (al p : ByteArray) (hal : al.size = 64) (hs : p.size ≤ 1099511627776) : Ev (fun k => radix_write.f k al p) (strOfNums (encL al (bytesOf p))) := by
  have hl := bytesOf_length p
  obtain ⟨W, hW⟩ : ∃ W, p.size / 3 = W := ⟨_, rfl⟩
  have hwt : wrap64 ((p.size : Int) / 3) = (W : Int) := wrapZ (by omega) (by omega)
  have hw := Aside0.mk hwt
  clear hwt
  have H : ∀ (d i : Nat) (acc : List Int), i + d = W → acc.length ≤ 4 * i → Ev (fun k => radix_write.l0 k al p acc (W : Int) (W : Int) (i : Int)) (strOfNums (acc ++ encL al ((bytesOf p).drop (3 * i)))) := by
    intro d
    induction d with
    | zero =>
      intro i acc hi ha
      refine Ev.step (f := fun k => radix_write.j1 k al acc (p.extract (3 * W) p.size)) (fun k => by rw [radix_write.l0, if_neg (by omega)]; simp only [wrap3 W (by omega), Int.toNat_natCast]; rw [if_pos (by omega), if_pos (by omega)]) ?_
      have hz : (p.extract (3 * W) p.size).size ≤ 2 := by rw [ByteArray.size_extract]; omega
      have := write.evj1 al (p.extract (3 * W) p.size) hal acc (by omega) hz
      rw [bytesOf_extract_to_end] at this
      rwa [show 3 * i = 3 * W by omega]
    | succ d ih =>
      intro i acc hi ha
      have hd : (bytesOf p).drop (3 * i) = bt p ((3 * i : Nat) : Int) :: bt p ((3 * i + 1 : Nat) : Int) :: bt p ((3 * i + 2 : Nat) : Int) :: (bytesOf p).drop (3 * (i + 1)) := by
        rw [bt_nat, bt_nat, bt_nat, drop_cons _ (3 * i) 0 (by omega), drop_cons _ (3 * i + 1) 0 (by omega), drop_cons _ (3 * i + 1 + 1) 0 (by omega), show 3 * (i + 1) = 3 * i + 1 + 1 + 1 by omega]
      rw [hd]
      have hA := bt_range p ((3 * i : Nat) : Int)
      have hB := bt_range p ((3 * i + 1 : Nat) : Int)
      have hC := bt_range p ((3 * i + 2 : Nat) : Int)
      refine Ev.step (fun k => rfl) ?_
      simp only [radix_write.l0, wrap3 i (by omega), wrapN (3 * i) (by omega), wrapN2 (3 * i) (by omega), wrapN i (by omega), three _ _ _ hA hB hC]
      generalize bt p ((3 * i : Nat) : Int) = a at *
      generalize bt p ((3 * i + 1 : Nat) : Int) = b at *
      generalize bt p ((3 * i + 2 : Nat) : Int) = c at *
      have f1 : (a * 65536 + b * 256 + c) / 262144 = a / 4 := by omega
      have f2 : Go.bits .and .u32 ((a * 65536 + b * 256 + c) / 4096) 63 = a % 4 * 16 + b / 16 := by rw [u32_and63 _ (by omega) (by omega)]; omega
      have f3 : Go.bits .and .u32 ((a * 65536 + b * 256 + c) / 64) 63 = b % 16 * 4 + c / 64 := by rw [u32_and63 _ (by omega) (by omega)]; omega
      have f4 : Go.bits .and .u32 (a * 65536 + b * 256 + c) 63 = c % 64 := by rw [u32_and63 _ (by omega) (by omega)]; omega
      simp only [f1, f2, f3, f4, Option.bind_some, List.length_append, List.length_cons, List.length_nil, List.append_assoc, List.cons_append, List.nil_append]
      clear f1 f2 f3 f4
      refine Ev.if_pos (by omega) (Ev.if_pos (by omega) (Ev.if_pos (by omega) (Ev.if_pos (by omega) (Ev.if_pos (by omega) (Ev.if_pos (by omega) (Ev.if_pos (by omega) ?_))))))
      refine Ev.if_pos (by omega) (Ev.if_pos (by omega) (Ev.if_pos (by omega) (Ev.if_pos (by omega) (Ev.if_pos (by omega) (Ev.if_pos (by omega) (Ev.if_pos (by omega) (Ev.if_pos (by omega) (Ev.if_pos (by omega) (Ev.if_pos (by omega) (Ev.if_pos (by omega) (Ev.if_pos (by omega) ?_)))))))))))
      have := ih (i + 1) (acc ++ [bt al (a / 4), bt al (a % 4 * 16 + b / 16), bt al (b % 16 * 4 + c / 64), bt al (c % 64)]) (by omega) (by simp only [List.length_append, List.length_cons, List.length_nil]; omega)
      simpa only [encL, List.append_assoc, List.cons_append, List.nil_append] using this
  have := H W 0 [] (by omega) (by simp)
  simp only [radix_write.f, hw.out]
  simpa using this
/-! ### the document's bits -/
def bits8 (v : Int) : List Int := [v / 128 % 2, v / 64 % 2, v / 32 % 2, v / 16 % 2, v / 8 % 2, v / 4 % 2, v / 2 % 2, v / 1 % 2]
def bitsL (l : List Int) : List Int := l.flatMap bits8
theorem bits.step (p : ByteArray) (acc : List Int) (hacc : acc.length < 17592186044416) (i v m : Int) (hv : 0 ≤ v ∧ v ≤ 255) (hm : 0 < m ∧ m ≤ 128) {r : List Int}
    (h : Ev (fun k => usherref2_bits.l1 k p (acc ++ [v / m % 2]) i v (m / 2)) r) : Ev (fun k => usherref2_bits.l1 k p acc i v m) r := by
  refine Ev.step (fun k => rfl) ?_
  have hq : 0 ≤ v / m := Int.ediv_nonneg hv.1 (by omega)
  have hq2 : v / m ≤ v := Int.ediv_le_self _ hv.1
  have e1 : Int.tmod (wrap64 (Int.tdiv v m)) 2 = v / m % 2 := by
    rw [Int.tdiv_eq_ediv_of_nonneg hv.1, wrap64_of (by omega), Int.tmod_eq_emod_of_nonneg hq]
  have e2 : wrap64 (Int.tdiv m 2) = m / 2 := by
    rw [Int.tdiv_eq_ediv_of_nonneg (by omega), wrap64_of (by omega)]
  simp only [usherref2_bits.l1, e1, e2]
  exact Ev.if_pos (by omega) (Ev.if_neg (by omega) (Ev.if_pos hacc h))
theorem bits.ev (p : ByteArray) (hs : p.size ≤ 1099511627776) : Ev (fun k => usherref2_bits.f k p) (bitsL (bytesOf p)) := by
  have hl := bytesOf_length p
  have H : ∀ (d i : Nat) (acc : List Int), i + d = p.size → acc.length ≤ 8 * i → Ev (fun k => usherref2_bits.l0 k p acc (i : Int)) (acc ++ bitsL ((bytesOf p).drop i)) := by
    intro d
    induction d with
    | zero =>
      intro i acc hi _
      refine Ev.step (f := fun k => some acc) (fun k => by rw [usherref2_bits.l0, if_neg (by omega)]) ?_
      rw [List.drop_eq_nil_of_le (by omega)]
      simpa [bitsL] using Ev.now _
    | succ d ih =>
      intro i acc hi ha
      have hb := bt_range p (i : Int)
      have hd : (bytesOf p).drop i = bt p (i : Int) :: (bytesOf p).drop (i + 1) := by
        rw [bt_nat]; exact drop_cons _ i 0 (by omega)
      have he : bitsL ((bytesOf p).drop i) = bits8 (bt p (i : Int)) ++ bitsL ((bytesOf p).drop (i + 1)) := by rw [hd]; simp [bitsL]
      rw [he]
      refine Ev.step (fun k => rfl) ?_
      simp only [usherref2_bits.l0]
      refine Ev.if_pos (by omega) (Ev.if_pos (by omega) ?_)
      have hw : wrap64 (bt p (i : Int)) = bt p (i : Int) := wrap64_of (by omega)
      rw [hw]
      have hn := ih (i + 1) (acc ++ bits8 (bt p (i : Int))) (by omega) (by simp only [List.length_append, bits8, List.length_cons, List.length_nil]; omega)
      clear hw
      generalize bt p (i : Int) = v at *
      have hz : ∀ x : List Int, x.length ≤ 8 → (acc ++ x).length < 17592186044416 := fun x hx => by rw [List.length_append]; omega
      refine bits.step p acc (by have := hz [] (by simp); simpa using this) _ v 128 hb (by omega) ?_
      refine bits.step p _ (hz [_] (by simp)) _ v (128 / 2) hb (by omega) ?_
      simp only [List.append_assoc, List.cons_append, List.nil_append]
      refine bits.step p _ (hz [_, _] (by simp)) _ v (128 / 2 / 2) hb (by omega) ?_
      simp only [List.append_assoc, List.cons_append, List.nil_append]
      refine bits.step p _ (hz [_, _, _] (by simp)) _ v (128 / 2 / 2 / 2) hb (by omega) ?_
      simp only [List.append_assoc, List.cons_append, List.nil_append]
      refine bits.step p _ (hz [_, _, _, _] (by simp)) _ v (128 / 2 / 2 / 2 / 2) hb (by omega) ?_
      simp only [List.append_assoc, List.cons_append, List.nil_append]
      refine bits.step p _ (hz [_, _, _, _, _] (by simp)) _ v (128 / 2 / 2 / 2 / 2 / 2) hb (by omega) ?_
      simp only [List.append_assoc, List.cons_append, List.nil_append]
      refine bits.step p _ (hz [_, _, _, _, _, _] (by simp)) _ v (128 / 2 / 2 / 2 / 2 / 2 / 2) hb (by omega) ?_
      simp only [List.append_assoc, List.cons_append, List.nil_append]
      refine bits.step p _ (hz [_, _, _, _, _, _, _] (by simp)) _ v (128 / 2 / 2 / 2 / 2 / 2 / 2 / 2) hb (by omega) ?_
      simp only [List.append_assoc, List.cons_append, List.nil_append]
      refine Ev.step (f := fun k => usherref2_bits.l0 k p (acc ++ bits8 v) ((i + 1 : Nat) : Int)) (fun k => ?_) ?_
      · rw [usherref2_bits.l1, if_neg (by decide), wrapN i (by omega)]; rfl
      · rw [← List.append_assoc]; exact hn
  have := H p.size 0 [] (by omega) (by simp)
  simpa [usherref2_bits.f] using this
/-- Six bits as a number; bits 0 where there are none. -/
def val6 (l : List Int) : Int := 2 * (2 * (2 * (2 * (2 * (2 * 0 + l.getD 0 0) + l.getD 1 0) + l.getD 2 0) + l.getD 3 0) + l.getD 4 0) + l.getD 5 0
def grpF (al : ByteArray) : Nat → List Int → List Int
  | 0, _ => []
  | f + 1, l => if l = [] then [] else bt al (val6 l) :: grpF al f (l.drop 6)
def Bits (l : List Int) : Prop := ∀ x ∈ l, x = 0 ∨ x = 1
theorem Bits.at_ {l : List Int} (h : Bits l) (i : Nat) : l.getD i 0 = 0 ∨ l.getD i 0 = 1 := by
  rw [List.getD_eq_getElem?_getD]
  cases e : l[i]? with
  | none => exact Or.inl rfl
  | some x => exact h x (List.mem_of_getElem? e)
theorem letters.step (l : List Int) (hl : l.length ≤ 17592186044416) (hb : Bits l) (al : ByteArray) (acc : List Int) (i : Nat) (hi : i < l.length) (v : Int) (hv : 0 ≤ v ∧ v < 1000) (j : Nat) (hj : j < 6) {r : ByteArray}
    (h : Ev (fun k => usherref2_letters.l1 k l 6 al acc (i : Int) (2 * v + (l.drop i).getD j 0) ((j + 1 : Nat) : Int)) r) : Ev (fun k => usherref2_letters.l1 k l 6 al acc (i : Int) v (j : Int)) r := by
  refine Ev.step (fun k => rfl) ?_
  have e4 : rd l ((i + j : Nat) : Int) = l.getD (i + j) 0 := by unfold rd; rw [Int.toNat_natCast]
  have e5 : (l.drop i).getD j 0 = l.getD (i + j) 0 := by rw [List.getD_eq_getElem?_getD, List.getElem?_drop, ← List.getD_eq_getElem?_getD]
  have h01 := hb.at_ (i + j)
  simp only [usherref2_letters.l1, wrapZ (x := (i : Int) + (j : Int)) (y := ((i + j : Nat) : Int)) (by omega) (by omega), wrap64_of (x := 2 * v) (by omega), wrapN j (by omega), e4, wrap64_of (x := 2 * v + l.getD (i + j) 0) (by omega)]
  rw [e5] at h
  clear e4 e5
  refine Ev.if_pos (by omega) ?_
  by_cases hlt : i + j < l.length
  · exact Ev.if_pos (by omega) (Ev.if_pos (by omega) h)
  · have e0 : l.getD (i + j) 0 = 0 := by rw [List.getD_eq_getElem?_getD, List.getElem?_eq_none (by omega)]; rfl
    rw [e0, Int.add_zero] at h
    exact Ev.if_neg (by omega) h
theorem letters.ev (l : List Int) (hl : l.length ≤ 17592186044000) (hb : Bits l) (al : ByteArray) (hal : al.size = 64) : ∀ (f : Nat) (i : Nat) (acc : List Int), l.length < i + f → acc.length ≤ i →
    Ev (fun k => usherref2_letters.l0 k l 6 al acc (i : Int)) (strOfNums (acc ++ grpF al f (l.drop i))) := by
  intro f
  induction f with
  | zero =>
    intro i acc hi ha
    refine Ev.step (f := fun k => some (strOfNums acc)) (fun k => by rw [usherref2_letters.l0, if_neg (by omega)]) ?_
    simpa [grpF] using Ev.now _
  | succ f ih =>
    intro i acc hi ha
    by_cases h : i < l.length
    · have hne : l.drop i ≠ [] := by
        intro e; have := congrArg List.length e; simp at this; omega
      have hg : grpF al (f + 1) (l.drop i) = bt al (val6 (l.drop i)) :: grpF al f (l.drop (i + 6)) := by
        show (if l.drop i = [] then [] else _) = _
        rw [if_neg hne, List.drop_drop]
      rw [hg]
      have hB : Bits (l.drop i) := fun x hx => hb x (List.mem_of_mem_drop hx)
      have b0 := hB.at_ 0
      have b1 := hB.at_ 1
      have b2 := hB.at_ 2
      have b3 := hB.at_ 3
      have b4 := hB.at_ 4
      have b5 := hB.at_ 5
      have hn := ih (i + 6) (acc ++ [bt al (val6 (l.drop i))]) (by omega) (by rw [List.length_append, List.length_cons, List.length_nil]; omega)
      refine Ev.step (fun k => rfl) ?_
      simp only [usherref2_letters.l0]
      refine Ev.if_pos (by omega) ?_
      refine letters.step l (by omega) hb al acc i h 0 (by omega) 0 (by omega) ?_
      refine letters.step l (by omega) hb al acc i h _ (by omega) 1 (by omega) ?_
      refine letters.step l (by omega) hb al acc i h _ (by omega) 2 (by omega) ?_
      refine letters.step l (by omega) hb al acc i h _ (by omega) 3 (by omega) ?_
      refine letters.step l (by omega) hb al acc i h _ (by omega) 4 (by omega) ?_
      refine letters.step l (by omega) hb al acc i h _ (by omega) 5 (by omega) ?_
      have hv : 0 ≤ val6 (l.drop i) ∧ val6 (l.drop i) < 64 := by unfold val6; omega
      refine Ev.step (f := fun k => usherref2_letters.l0 k l 6 al (acc ++ [bt al (val6 (l.drop i))]) ((i + 6 : Nat) : Int)) (fun k => ?_) ?_
      · rw [usherref2_letters.l1, if_neg (by decide), wrapZ (x := (i : Int) + 6) (y := ((i + 6 : Nat) : Int)) (by omega) (by omega)]
        show (if 0 ≤ val6 (l.drop i) then (if val6 (l.drop i) < (al.size : Int) then (if acc.length < 140737488355328 then _ else _) else _) else _) = _
        rw [if_pos hv.1, if_pos (by omega), if_pos (by omega)]
        rfl
      · simpa only [List.append_assoc, List.cons_append, List.nil_append] using hn
    · refine Ev.step (f := fun k => some (strOfNums acc)) (fun k => by rw [usherref2_letters.l0, if_neg (by omega)]) ?_
      rw [List.drop_eq_nil_of_le (by omega)]
      simpa [grpF] using Ev.now _
theorem bits8_bits (v : Int) : Bits (bits8 v) := by
  intro x hx
  simp only [bits8, List.mem_cons, List.not_mem_nil, or_false] at hx
  rcases hx with rfl | rfl | rfl | rfl | rfl | rfl | rfl | rfl <;> omega
theorem bitsL_bits (l : List Int) : Bits (bitsL l) := by
  intro x hx
  obtain ⟨c, _, hx⟩ := List.mem_flatMap.1 hx
  exact bits8_bits c x hx
theorem bitsL_len (l : List Int) : (bitsL l).length = 8 * l.length := by
  induction l with
  | nil => rfl
  | cons a l ih =>
    have e : bitsL (a :: l) = bits8 a ++ bitsL l := by simp [bitsL]
    rw [e, List.length_append, ih]
    simp only [bits8, List.length_cons, List.length_nil]; omega
theorem grp_enc (al : ByteArray) : ∀ (n : Nat) (l : List Int), l.length ≤ n → (∀ x ∈ l, 0 ≤ x ∧ x ≤ 255) → ∀ f, 8 * l.length < f → grpF al f (bitsL l) = encL al l := by
  intro n
  induction n with
  | zero =>
    intro l h _ f hf
    cases l with
    | nil => cases f <;> simp [grpF, bitsL, encL]
    | cons a l => simp at h
  | succ n ih =>
    intro l h hr f hf
    match l, h, hr, hf with
    | [], _, _, _ => cases f <;> simp [grpF, bitsL, encL]
    | [a], _, hr, hf =>
      have ha := hr a (by simp)
      obtain ⟨f, rfl⟩ : ∃ m, f = m + 3 := ⟨f - 3, by simp only [List.length_cons, List.length_nil] at hf; omega⟩
      show bt al (val6 (bits8 a)) :: bt al (val6 [a / 2 % 2, a / 1 % 2]) :: grpF al (f + 1) [] = _
      have e1 : val6 (bits8 a) = a / 4 := by
        show 2 * (2 * (2 * (2 * (2 * (2 * 0 + a / 128 % 2) + a / 64 % 2) + a / 32 % 2) + a / 16 % 2) + a / 8 % 2) + a / 4 % 2 = _
        omega
      have e2 : val6 [a / 2 % 2, a / 1 % 2] = a % 4 * 16 := by
        show 2 * (2 * (2 * (2 * (2 * (2 * 0 + a / 2 % 2) + a / 1 % 2) + 0) + 0) + 0) + 0 = _
        omega
      rw [e1, e2]; rfl
    | [a, b], _, hr, hf =>
      have ha := hr a (by simp)
      have hb := hr b (by simp)
      obtain ⟨f, rfl⟩ : ∃ m, f = m + 4 := ⟨f - 4, by simp only [List.length_cons, List.length_nil] at hf; omega⟩
      show bt al (val6 (bits8 a)) :: bt al (val6 [a / 2 % 2, a / 1 % 2, b / 128 % 2, b / 64 % 2, b / 32 % 2, b / 16 % 2]) :: bt al (val6 [b / 8 % 2, b / 4 % 2, b / 2 % 2, b / 1 % 2]) :: grpF al (f + 1) [] = _
      have e1 : val6 (bits8 a) = a / 4 := by
        show 2 * (2 * (2 * (2 * (2 * (2 * 0 + a / 128 % 2) + a / 64 % 2) + a / 32 % 2) + a / 16 % 2) + a / 8 % 2) + a / 4 % 2 = _
        omega
      have e2 : val6 [a / 2 % 2, a / 1 % 2, b / 128 % 2, b / 64 % 2, b / 32 % 2, b / 16 % 2] = a % 4 * 16 + b / 16 := by
        show 2 * (2 * (2 * (2 * (2 * (2 * 0 + a / 2 % 2) + a / 1 % 2) + b / 128 % 2) + b / 64 % 2) + b / 32 % 2) + b / 16 % 2 = _
        omega
      have e3 : val6 [b / 8 % 2, b / 4 % 2, b / 2 % 2, b / 1 % 2] = b % 16 * 4 := by
        show 2 * (2 * (2 * (2 * (2 * (2 * 0 + b / 8 % 2) + b / 4 % 2) + b / 2 % 2) + b / 1 % 2) + 0) + 0 = _
        omega
      rw [e1, e2, e3]; rfl
    | a :: b :: c :: r, h, hr, hf =>
      have ha := hr a (by simp)
      have hb := hr b (by simp)
      have hc := hr c (by simp)
      simp only [List.length_cons] at h hf
      obtain ⟨f, rfl⟩ : ∃ m, f = m + 4 := ⟨f - 4, by omega⟩
      have hrec := ih r (by omega) (fun x hx => hr x (by simp [hx])) f (by omega)
      have e0 : bitsL (a :: b :: c :: r) = bits8 a ++ (bits8 b ++ (bits8 c ++ bitsL r)) := by simp [bitsL]
      rw [e0]
      show bt al (val6 (bits8 a ++ _)) :: bt al (val6 ([a / 2 % 2, a / 1 % 2, b / 128 % 2, b / 64 % 2, b / 32 % 2, b / 16 % 2] ++ ([b / 8 % 2, b / 4 % 2, b / 2 % 2, b / 1 % 2] ++ (bits8 c ++ bitsL r)))) :: bt al (val6 ([b / 8 % 2, b / 4 % 2, b / 2 % 2, b / 1 % 2, c / 128 % 2, c / 64 % 2] ++ ([c / 32 % 2, c / 16 % 2, c / 8 % 2, c / 4 % 2, c / 2 % 2, c / 1 % 2] ++ bitsL r))) :: bt al (val6 ([c / 32 % 2, c / 16 % 2, c / 8 % 2, c / 4 % 2, c / 2 % 2, c / 1 % 2] ++ bitsL r)) :: grpF al f (bitsL r) = _
      rw [hrec]
      have e1 : val6 (bits8 a ++ (bits8 b ++ (bits8 c ++ bitsL r))) = a / 4 := by
        show 2 * (2 * (2 * (2 * (2 * (2 * 0 + a / 128 % 2) + a / 64 % 2) + a / 32 % 2) + a / 16 % 2) + a / 8 % 2) + a / 4 % 2 = _
        omega
      have e2 : val6 ([a / 2 % 2, a / 1 % 2, b / 128 % 2, b / 64 % 2, b / 32 % 2, b / 16 % 2] ++ ([b / 8 % 2, b / 4 % 2, b / 2 % 2, b / 1 % 2] ++ (bits8 c ++ bitsL r))) = a % 4 * 16 + b / 16 := by
        show 2 * (2 * (2 * (2 * (2 * (2 * 0 + a / 2 % 2) + a / 1 % 2) + b / 128 % 2) + b / 64 % 2) + b / 32 % 2) + b / 16 % 2 = _
        omega
      have e3 : val6 ([b / 8 % 2, b / 4 % 2, b / 2 % 2, b / 1 % 2, c / 128 % 2, c / 64 % 2] ++ ([c / 32 % 2, c / 16 % 2, c / 8 % 2, c / 4 % 2, c / 2 % 2, c / 1 % 2] ++ bitsL r)) = b % 16 * 4 + c / 64 := by
        show 2 * (2 * (2 * (2 * (2 * (2 * 0 + b / 8 % 2) + b / 4 % 2) + b / 2 % 2) + b / 1 % 2) + c / 128 % 2) + c / 64 % 2 = _
        omega
      have e4 : val6 ([c / 32 % 2, c / 16 % 2, c / 8 % 2, c / 4 % 2, c / 2 % 2, c / 1 % 2] ++ bitsL r) = c % 64 := by
        show 2 * (2 * (2 * (2 * (2 * (2 * 0 + c / 32 % 2) + c / 16 % 2) + c / 8 % 2) + c / 4 % 2) + c / 2 % 2) + c / 1 % 2 = _
        omega
      rw [e1, e2, e3, e4]; rfl
/-! ### Std -/
def stdU : ByteArray := ⟨#[65, 66, 67, 68, 69, 70, 71, 72, 73, 74, 75, 76, 77, 78, 79, 80, 81, 82, 83, 84, 85, 86, 87, 88, 89, 90, 97, 98, 99, 100, 101, 102, 103, 104, 105, 106, 107, 108, 109, 110, 111, 112, 113, 114, 115, 116, 117, 118, 119, 120, 121, 122, 48, 49, 50, 51, 52, 53, 54, 55, 56, 57, 43, 47]⟩
/-- What Std writes. -/
def stdS (p : ByteArray) : ByteArray :=
  if (strOfNums (encL stdU (bytesOf p))).size % 4 = 2 then strOfNums (encL stdU (bytesOf p)) ++ (⟨#[61, 61]⟩ : ByteArray)
  else if (strOfNums (encL stdU (bytesOf p))).size % 4 = 3 then strOfNums (encL stdU (bytesOf p)) ++ (⟨#[61]⟩ : ByteArray)
  else strOfNums (encL stdU (bytesOf p))
theorem enc_size (p : ByteArray) : (strOfNums (encL stdU (bytesOf p))).size ≤ 2 * p.size ∧ (strOfNums (encL stdU (bytesOf p))).size % 4 ≠ 1 := by
  have h1 := encL_len stdU _ (bytesOf p) (Nat.le_refl _)
  have h2 := bytesOf_length p
  rw [size_eq, bytesOf_strOfNums (encL_range stdU _ _ (Nat.le_refl _))]
  omega
theorem stdS_size (p : ByteArray) : (stdS p).size ≤ 2 * p.size + 2 := by
  have h := enc_size p
  unfold stdS
  split
  · rw [ByteArray.size_append]; show _ + 2 ≤ _; omega
  · split
    · rw [ByteArray.size_append]; show _ + 1 ≤ _; omega
    · omega
theorem StdR.ev (p : ByteArray) (hs : p.size ≤ 1099511627776) : Ev (fun k => usherref2_Std.f k p) (stdS p) := by
  have hz := enc_size p
  have hl := bytesOf_length p
  simp only [usherref2_Std.f]
  refine (bits.ev p hs).bind ?_
  have hb8 := bitsL_len (bytesOf p)
  have hle := letters.ev (bitsL (bytesOf p)) (by omega) (bitsL_bits _) stdU rfl ((bitsL (bytesOf p)).length + 1) 0 [] (by omega) (by simp)
  rw [List.nil_append, List.drop_zero, grp_enc stdU _ _ (Nat.le_refl _) (fun x hx => bytesOf_range hx) _ (by omega)] at hle
  have hle2 : Ev (fun k => usherref2_letters.f k (bitsL (bytesOf p)) 6 stdU) (strOfNums (encL stdU (bytesOf p))) := by
    simp only [usherref2_letters.f]
    exact hle
  refine hle2.bind ?_
  unfold stdS
  generalize strOfNums (encL stdU (bytesOf p)) = w at *
  by_cases h2 : w.size % 4 = 2
  · rw [if_pos h2]
    exact Ev.if_pos (by omega) (Ev.if_pos (by omega) (Ev.now _))
  · rw [if_neg h2]
    refine Ev.if_neg (by omega) ?_
    by_cases h3 : w.size % 4 = 3
    · rw [if_pos h3]
      exact Ev.if_pos (by omega) (Ev.if_pos (by omega) (Ev.now _))
    · rw [if_neg h3]
      exact Ev.if_neg (by omega) (Ev.now _)
theorem pad0 (w : ByteArray) (h : w.size % 4 = 0) : Ev (fun k => radix_Std.l0 k w) w := by
  refine Ev.step (fun k => rfl) ?_
  simp only [radix_Std.l0]
  exact Ev.if_pos (by omega) (Ev.now _)
theorem pad1 (w : ByteArray) (hw : w.size ≤ 1099511627776000) (h : w.size % 4 ≠ 0) {r : ByteArray} (hr : Ev (fun k => radix_Std.l0 k (w ++ (⟨#[61]⟩ : ByteArray))) r) : Ev (fun k => radix_Std.l0 k w) r := by
  refine Ev.step (fun k => rfl) ?_
  simp only [radix_Std.l0]
  exact Ev.if_neg (by omega) (Ev.if_pos (by omega) hr)
theorem Std.ev (p : ByteArray) (hs : p.size ≤ 1099511627776) : Ev (fun k => radix_Std.f k p) (stdS p) := by
  have hz := enc_size p
  simp only [radix_Std.f]
  have hw : Ev (fun k => radix_write.f k stdU p) (strOfNums (encL stdU (bytesOf p))) := write.ev stdU p rfl hs
  refine hw.bind ?_
  unfold stdS
  generalize strOfNums (encL stdU (bytesOf p)) = w at *
  have e1 : (w ++ (⟨#[61]⟩ : ByteArray)).size = w.size + 1 := by rw [ByteArray.size_append]; rfl
  have e2 : (w ++ (⟨#[61]⟩ : ByteArray) ++ (⟨#[61]⟩ : ByteArray)).size = w.size + 1 + 1 := by rw [ByteArray.size_append, e1]; rfl
  by_cases h2 : w.size % 4 = 2
  · rw [if_pos h2]
    refine pad1 w (by omega) (by omega) (pad1 _ (by omega) (by omega) ?_)
    have e : w ++ (⟨#[61]⟩ : ByteArray) ++ (⟨#[61]⟩ : ByteArray) = w ++ (⟨#[61, 61]⟩ : ByteArray) := by rw [ByteArray.append_assoc]; rfl
    rw [← e]
    exact pad0 _ (by omega)
  · rw [if_neg h2]
    by_cases h3 : w.size % 4 = 3
    · rw [if_pos h3]
      exact pad1 w (by omega) (by omega) (pad0 _ (by omega))
    · rw [if_neg h3]
      exact pad0 w (by omega)
theorem FieldBasicOfs_pure (a b : ByteArray) (_ : a.size ≤ 140737488351232) (_ : b.size ≤ 140737488351232) (hbk : a.size + b.size ≤ 1048576) : ∃ k, usherlaw6_FieldBasicOfs.f k a b = some true := by
  refine Ev.rounds (g := fun k => usherlaw6_FieldBasicOfs.f k a b) ?_
  have ha := escS_size a
  have hb := escS_size b
  have hA := Escape.ev a (by omega)
  have hB := Escape.ev b (by omega)
  have hA2 := EscapeR.ev a (by omega)
  have hB2 := EscapeR.ev b (by omega)
  generalize strOfNums (escS (bytesOf a)) = x at *
  generalize strOfNums (escS (bytesOf b)) = y at *
  have z1 : (x ++ (⟨#[58]⟩ : ByteArray)).size = x.size + 1 := by rw [ByteArray.size_append]; rfl
  have z2 : ((x ++ (⟨#[58]⟩ : ByteArray)) ++ y).size = x.size + 1 + y.size := by rw [ByteArray.size_append, z1]
  have hS := Std.ev ((x ++ (⟨#[58]⟩ : ByteArray)) ++ y) (by omega)
  have hS2 := StdR.ev ((x ++ (⟨#[58]⟩ : ByteArray)) ++ y) (by omega)
  have hsz := stdS_size ((x ++ (⟨#[58]⟩ : ByteArray)) ++ y)
  have h1 : Ev (fun k => field_BasicOf.f k a b) ((⟨#[66, 97, 115, 105, 99, 32]⟩ : ByteArray) ++ stdS ((x ++ (⟨#[58]⟩ : ByteArray)) ++ y)) := by
    simp only [field_BasicOf.f]
    refine hA.bind (Ev.if_pos (by omega) (hB.bind (Ev.if_pos (by omega) (hS.bind (Ev.if_pos (by omega) (Ev.now _))))))
  have h2 : Ev (fun k => usherref6_BasicOf.f k a b) ((⟨#[66, 97, 115, 105, 99, 32]⟩ : ByteArray) ++ stdS ((x ++ (⟨#[58]⟩ : ByteArray)) ++ y)) := by
    simp only [usherref6_BasicOf.f]
    refine hA2.bind (hB2.bind (Ev.if_pos (by omega) (Ev.if_pos (by omega) (hS2.bind (Ev.if_pos (by omega) (Ev.now _))))))
  simp only [usherlaw6_FieldBasicOfs.f]
  refine h1.bind (h2.bind ?_)
  rw [beq_self_eq_true]
  exact Ev.now _
end Go.Proofs.YtbkhgmmlacdhoaaDoor.Q
