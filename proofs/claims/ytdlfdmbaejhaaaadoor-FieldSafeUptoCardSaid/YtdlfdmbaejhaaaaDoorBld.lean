/- A strings.Builder of the call's own, told as a row of bytes: what the writers add to it. Conditions: the text has at most 140737488355328 bytes. -/
import Derived.Test.YtdlfdmbaejhaaaaDoorBuild
import Derived.Test.YtdlfdmbaejhaaaaDoorTool
set_option linter.unusedVariables false
set_option linter.unusedSimpArgs false
namespace Go.Proofs.YtdlfdmbaejhaaaaDoor.Q
open Go.RowKit Go.Proofs.YtdlfdmbaejhaaaaDoorW.PrintWords Go.Proofs.YtdlfdmbaejhaaaaDoorW.PrintLast Go.Proofs.YtdlfdmbaejhaaaaDoorW.PrintMore
/-- Value v is the address of a builder that holds these bytes; it was made since the heap had 'base' blocks; 'ok' holds of its blocks. -/
def Kd.B (_d : Kd Int) (_e : Nat) (w : World) (base : Nat) (ok : Nat → Prop) (v : Value) (xs : List Int) : Prop :=
  ∃ b, v = .pointer (some ⟨b, 0, none⟩) ∧ base ≤ b ∧ Bld b xs w ∧ (∀ x ∈ xs, 0 ≤ x ∧ x ≤ 255) ∧ ok b ∧ ∀ p u k, w.heap[b]? = some (.cells #[p, u] 72 (0, 0)) → u.ownBlock = some k → ok k
/-- What a writer leaves: what is older than 'base', and each block that is neither a builder nor a row of bytes. -/
structure BKeep (base : Nat) (w w' : World) : Prop where
  below : Below base w w'
  keep : ∀ (k : Nat) (cs : Array Value) (t : TypeId) (fr : Nat × Nat), w.heap[k]? = some (.cells cs t fr) → t ≠ 72 → t ≠ 5 → w'.heap[k]? = w.heap[k]?
section
variable {d : Kd Int} {e base : Nat} {ok ok' : Nat → Prop} {w w' : World} {v : Value} {xs : List Int}
theorem Bld.at_ {b : Nat} {w : World} {xs : List Int} (h : Bld b xs w) : ∃ p u, w.heap[b]? = some (.cells #[p, u] 72 (0, 0)) ∧ w.ownsRow b 5 1 u (xs.map fun x => Value.int .u8 x).length (xs.map fun x => .int .u8 x) := by
  rcases h with h | h
  · obtain ⟨_, u, hu, ho, _⟩ := h; exact ⟨_, u, hu, ho⟩
  · obtain ⟨_, u, hu, ho, _⟩ := h; exact ⟨_, u, hu, ho⟩
theorem Kd.B_below (h : Kd.B d e w base ok v xs) (hb : Below w.heap.size w w') : Kd.B d e w' base ok v xs := by
  obtain ⟨b, hv, hB, hl, hr, h1, h2⟩ := h
  exact ⟨b, hv, hB, hl.below hb, hr, h1, fun p u k hk hu => h2 p u k (by rw [← hk]; exact (hb.block b hl.lt).symm) hu⟩
theorem Kd.B_alloc (h : Kd.B d e w base ok v xs) (o : Obj) : Kd.B d e (w.alloc o) base ok v xs := Kd.B_below h (below_alloc (Below.refl _ _) o)
theorem Kd.B_drewN (h : Kd.B d e w base ok v xs) (n : Nat) : Kd.B d e (w.drewN n) base ok v xs := h
theorem Kd.B_drew (h : Kd.B d e w base ok v xs) : Kd.B d e w.drew base ok v xs := h
theorem Kd.B_mono (h : Kd.B d e w base ok v xs) (hok : ∀ k, ok k → ok' k) : Kd.B d e w base ok' v xs := by
  obtain ⟨b, hv, hB, hl, hr, h1, h2⟩ := h
  exact ⟨b, hv, hB, hl, hr, hok _ h1, fun p u k hk hu => hok _ (h2 p u k hk hu)⟩
theorem Kd.B_lower {base' : Nat} (h : Kd.B d e w base ok v xs) (hb : base' ≤ base) : Kd.B d e w base' ok v xs := by
  obtain ⟨b, hv, hB, hl⟩ := h
  exact ⟨b, hv, Nat.le_trans hb hB, hl⟩
theorem Kd.B_types (h : Kd.B d e w base ok v xs) {g : Nat} {cs : Array Value} {t : TypeId} {fr : Nat × Nat} (hg : w.heap[g]? = some (.cells cs t fr)) (ht : t ≠ 72 ∧ t ≠ 5) : Kd.B d e w base (fun k => ok k ∧ k ≠ g) v xs := by
  obtain ⟨b, hv, hB, hl, hr, h1, h2⟩ := h
  refine ⟨b, hv, hB, hl, hr, ⟨h1, ?_⟩, fun p u k hk hu => ⟨h2 p u k hk hu, ?_⟩⟩
  · rintro rfl
    obtain ⟨p, u, hu, _⟩ := hl.at_
    rw [hg] at hu; injection hu with hu; injection hu with _ hu _; exact ht.1 hu
  · rintro rfl
    obtain ⟨p', u', hu', ho⟩ := hl.at_
    rw [hk] at hu'; injection hu' with hu'; injection hu' with hu' _ _
    obtain rfl : u = u' := by have := congrArg (fun z : Array Value => z[1]?) hu'; simpa using this
    rcases ho.2 with ⟨he, _⟩ | ⟨q, cap, cur, he, _, hb, _⟩
    · rw [he] at hu; simp [Value.ownBlock] at hu
    · rw [he] at hu; simp only [Value.ownBlock, Option.some.injEq] at hu; subst hu
      rw [hg] at hb; injection hb with hb; injection hb with _ hb _; exact ht.2 hb
theorem Kd.B_far {p : Addr} (h : Kd.B d e w base ok v xs) (hne : ∀ k, ok k → k ≠ p.block) (x : Value) : Kd.B d e (w.setCell p x) base ok v xs := by
  obtain ⟨b, hv, hB, hl, hr, h1, h2⟩ := h
  have hb : (w.setCell p x).heap[b]? = w.heap[b]? := Below.heap_setCell _ _ _ _ (hne _ h1)
  have H : ∀ {q : Value}, Lib.BuilderAt 72 5 b b q (xs.map fun x => .int .u8 x) w → Lib.BuilderAt 72 5 b b q (xs.map fun x => .int .u8 x) (w.setCell p x) := by
    rintro q ⟨hB, u, hu, ho, hn⟩
    refine ⟨hB, u, hb.trans hu, ?_, hn⟩
    refine ho.kept (row := some p.block) ⟨rfl, rfl, rfl, by simp [World.setCell], fun k _ hk => Below.heap_setCell _ _ _ _ (fun e => hk (by simp [e]))⟩ (Or.inr ?_)
    intro e
    exact hne _ (h2 q u _ hu e) rfl
  exact ⟨b, hv, hB, hl.imp H H, hr, h1, fun p u k hk hu => h2 p u k (hb ▸ hk) hu⟩
theorem Kd.B_new {g : Nat} {W : World} (hg : g = W.heap.size) (hb : w.heap[g]? = some (.cells #[.pointer none, .slice none 0 0] 72 (0, 0))) (hle : base ≤ W.heap.size) :
    Kd.B d e w base (fun _ => True) (.pointer (some ⟨g, 0, none⟩)) [] :=
  ⟨g, rfl, by omega, Or.inl ⟨Nat.le_refl _, .slice none 0 0, hb, World.ownsRow_nil _ _ _ _, by simp [Value.ownBlock]⟩, (fun x h => by cases h), trivial, fun _ _ _ _ _ => trivial⟩
theorem BKeep.blk {W : World} (h : BKeep base w W) {g : Nat} {cs : Array Value} {t : TypeId} {fr : Nat × Nat} (hb : w.heap[g]? = some (.cells cs t fr)) (h1 : t ≠ 72) (h2 : t ≠ 5) : W.heap[g]? = some (.cells cs t fr) := (h.keep g cs t fr hb h1 h2).trans hb
theorem BKeep.blk' {W : World} (h : BKeep base w W) {g : Nat} {o : Obj} (hb : w.heap[g]? = some o) (ho : match o with | .cells _ t _ => t ≠ 72 ∧ t ≠ 5 | _ => False) : W.heap[g]? = some o := by
  cases o with
  | cells cs t fr => exact (h.keep g cs t fr hb ho.1 ho.2).trans hb
  | _ => exact ho.elim
theorem BKeep.of {b : Nat} (hbase : base ≤ b) (hl : Bld b xs w) (h1 : Below b w w') (h2 : KeepsN b w w') : BKeep base w w' := by
  refine ⟨h1.mono hbase, fun k cs t fr hk ht1 ht2 => ?_⟩
  refine h2 k (blk_lt hk) ?_ ?_
  · rintro rfl
    have hh : ∃ p u, w.heap[k]? = some (.cells #[p, u] 72 (0, 0)) := by
      rcases hl with hl | hl
      · obtain ⟨_, u, hu, _⟩ := hl; exact ⟨_, _, hu⟩
      · obtain ⟨_, u, hu, _⟩ := hl; exact ⟨_, _, hu⟩
    obtain ⟨p, u, hu⟩ := hh
    rw [hk] at hu
    injection hu with hu
    injection hu with _ hu _
    exact ht1 hu
  · intro cs' fr' hc
    rw [hk] at hc
    injection hc with hc
    injection hc with _ hc _
    exact ht2 hc
theorem BKeep.trans {W : World} (a : BKeep base w w') (b : BKeep base w' W) : BKeep base w W :=
  ⟨a.below.trans b.below, fun k cs t fr hk h1 h2 => by
    have e := a.keep k cs t fr hk h1 h2
    exact (b.keep k cs t fr (e.trans hk) h1 h2).trans e⟩
theorem BKeep.of_below (a : Below w.heap.size w w') (hb : base ≤ w.heap.size) : BKeep base w w' := ⟨a.mono hb, fun k cs t fr hk _ _ => a.block k (blk_lt hk)⟩
theorem mod_range (x : Int) : 0 ≤ x % 256 ∧ x % 256 ≤ 255 := by omega
theorem Kd.B_WriteByte (h : Kd.B d e w base ok v xs) (c : Int) (hl : xs.length < 140737488355328) (hc : 0 ≤ c ∧ c ≤ 255) :
    Calls Tryd.prog 73 #[v, .int .u8 c] w fun q w' => q = .returned .nilIface ∧ Kd.B d e w' base (fun _ => True) v (xs ++ [c]) ∧ BKeep base w w' := by
  obtain ⟨b, rfl, hB, hb, hr, _⟩ := h
  refine (bld_WriteByte b xs c w hb (by omega)).mono ?_
  rintro q w' ⟨rfl, h1, h2, h3⟩
  have hr' : ∀ x ∈ xs ++ [c], 0 ≤ x ∧ x ≤ 255 := fun x hx => (List.mem_append.1 hx).elim (hr x) (fun h => by obtain rfl := List.mem_singleton.1 h; exact hc)
  exact ⟨rfl, ⟨b, rfl, hB, h1, hr', trivial, fun _ _ _ _ _ => trivial⟩, BKeep.of hB hb h2 h3⟩
theorem Kd.B_WriteString (h : Kd.B d e w base ok v xs) (s : ByteArray) (hl : xs.length + s.size < 140737488355328) :
    Calls Tryd.prog 38 #[v, .string s] w fun q w' => q = .returned (.tuple #[.int .i64 s.size, .nilIface]) ∧ Kd.B d e w' base (fun _ => True) v (xs ++ bytesOf s) ∧ BKeep base w w' := by
  obtain ⟨b, rfl, hB, hb, hr, _⟩ := h
  refine (bld_WriteString b xs s w hb (by omega)).mono ?_
  rintro q w' ⟨rfl, h1, h2, h3⟩
  have hr' : ∀ x ∈ xs ++ bytesOf s, 0 ≤ x ∧ x ≤ 255 := fun x hx => (List.mem_append.1 hx).elim (hr x) bytesOf_range
  exact ⟨rfl, ⟨b, rfl, hB, h1, hr', trivial, fun _ _ _ _ _ => trivial⟩, BKeep.of hB hb h2 h3⟩
theorem Kd.B_String (h : Kd.B d e w base ok v xs) : Calls Tryd.prog 41 #[v] w fun q w' => q = .returned (.string (strOfNums xs)) ∧ Below base w w' := by
  obtain ⟨b, rfl, hB, hb, hr, _⟩ := h
  refine (bld_String b xs w hb hr).mono ?_
  rintro q w' ⟨rfl, h1⟩
  exact ⟨rfl, h1.mono hB⟩
end
end Go.Proofs.YtdlfdmbaejhaaaaDoor.Q
