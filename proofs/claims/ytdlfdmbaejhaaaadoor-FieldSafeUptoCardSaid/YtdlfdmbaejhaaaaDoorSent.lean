/- From a row's list of package variables to the facts that the contracts ask for: where the refusals lie, that they are apart, what the tables hold. -/
import Derived.Test.YtdlfdmbaejhaaaaDoorGlob
import Derived.Test.YtdlfdmbaejhaaaaDoorShelf
import Derived.Stop.LaidErr
import Derived.Lib.LaidTab
import Derived.ProofKit
import Derived.OpenShut
import Derived.LaidOnce
import GoSem.PinnedTables
set_option linter.unusedVariables false
set_option linter.unusedSimpArgs false
namespace Go.Proofs.YtdlfdmbaejhaaaaDoor.Q
open Go.RowKit Go.Proofs.YtdlfdmbaejhaaaaDoorW.PrintWords Go.Proofs.YtdlfdmbaejhaaaaDoorW.PrintLast Go.Proofs.YtdlfdmbaejhaaaaDoorW.PrintMore
open Go.ChangeShapes

section
variable {P : Program} {W : World}
theorem laidVars_mem {n : String} {d : DataW Unit} : ∀ {L : List (String × DataW Unit)} {ps : List MemPlace}, DataW.LaidVars P W L ps → (n, d) ∈ L →
    ∃ g t cs fuel p, P.globalNamed n = some g ∧ (P.globals[g]?).map (·.type) = some t ∧ W.var? P n = some cs ∧ DataW.trod (fun _ => ()) P W 0 (fun _ => true) false fuel t cs.toList = some (d, p)
  | [], _, _, hm => by cases hm
  | (n0, d0) :: r, ps, ⟨g, t, cs, fuel, p, q, hg, ht, hv, hd, hr, _⟩, hm => by
    rcases List.mem_cons.1 hm with e | e
    · injection e with e1 e2
      subst e1; subst e2
      exact ⟨g, t, cs, fuel, p, hg, ht, hv, hd⟩
    · exact laidVars_mem hr e
/-- A table of bytes on the list. -/
theorem laid_tab {L : List (String × DataW Unit)} {n : String} {zs : List Int} {g t e m : Nat} (h : laidMet P L W) (hm : (n, Lib.tabData .u8 zs) ∈ L)
    (hg : P.globalNamed n = some g) (hty : (P.globals[g]?).map (·.type) = some t) (ht : P.underlying t = some (.array m e)) (he : P.underlying e = some (.int .u8)) (hce : P.cellsOf e = 1) (hct : P.cellsOf t = m) : TabU8 g zs W := by
  obtain ⟨ps, hv, _⟩ := h
  obtain ⟨g', t', cs, fuel, p, hg', ht', hvar, hd⟩ := laidVars_mem hv hm
  obtain rfl := Option.some.inj (hg.symm.trans hg')
  obtain rfl := Option.some.inj (hty.symm.trans ht')
  have hT : Lib.TabIs P W n .u8 zs := by
    unfold Lib.TabIs
    rw [hvar, ← Lib.cells_of_tab ht he hce hct hd]
  exact fun i hi => hT.cell hg i hi
/-- A table of integers on the list, by its name. -/
theorem laid_tabN {L : List (String × DataW Unit)} {n : String} {k : IntKind} {zs : List Int} {g t e m : Nat} (h : laidMet P L W) (hm : (n, Lib.tabData k zs) ∈ L)
    (hg : P.globalNamed n = some g) (hty : (P.globals[g]?).map (·.type) = some t) (ht : P.underlying t = some (.array m e)) (he : P.underlying e = some (.int k)) (hce : P.cellsOf e = 1) (hct : P.cellsOf t = m) : Lib.TabIs P W n k zs := by
  obtain ⟨ps, hv, _⟩ := h
  obtain ⟨g', t', cs, fuel, p, hg', ht', hvar, hd⟩ := laidVars_mem hv hm
  obtain rfl := Option.some.inj (hg.symm.trans hg')
  obtain rfl := Option.some.inj (hty.symm.trans ht')
  unfold Lib.TabIs
  rw [hvar, ← Lib.cells_of_tab ht he hce hct hd]
/-- What reads as this datum is just these cells. -/
def Flat (P : Program) (t : TypeId) (d : DataW Unit) (L : List Value) : Prop := ∀ (W : World) (fuel : Nat) (cs : List Value) (p : List MemPlace), DataW.trod (fun _ => ()) P W 0 (fun _ => true) false fuel t cs = some (d, p) → cs = L
theorem Flat.int {t : TypeId} {k : IntKind} {n : Int} (ht : P.underlying t = some (.int k)) : Flat P t (.lit (.int k n)) [.int k n] := by
  intro W fuel cs p h
  obtain ⟨m, rfl, hx, _⟩ := DataW.trod_int ht h
  simp only [Prod.mk.injEq, DataW.lit.injEq, Lit.int.injEq, true_and] at hx
  rw [hx.1]
theorem Flat.string {t : TypeId} {l : List UInt8} (ht : P.underlying t = some .string) : Flat P t (.lit (.string l)) [.string ⟨l.toArray⟩] := by
  intro W fuel cs p h
  obtain ⟨s, rfl, hx, _⟩ := DataW.trod_string ht h
  simp only [Prod.mk.injEq, DataW.lit.injEq, Lit.string.injEq] at hx
  rw [hx.1]
theorem Flat.struct2 {t : TypeId} {f0 f1 : Field} {d0 d1 : DataW Unit} {c0 c1 : Value} (ht : P.underlying t = some (.struct #[f0, f1])) (hc : P.cellsOf t = 2) (h0o : f0.offset = 0) (h1o : f1.offset = 1) (h0c : P.cellsOf f0.type = 1) (h1c : P.cellsOf f1.type = 1)
    (h0 : Flat P f0.type d0 [c0]) (h1 : Flat P f1.type d1 [c1]) : Flat P t (.agg [d0, d1]) [c0, c1] := by
  intro W fuel cs p h
  obtain ⟨xs, n, rfl, hx, hl, hn, hf⟩ := DataW.trod_struct ht h
  simp only [Prod.mk.injEq, DataW.agg.injEq] at hx
  rw [hc] at hl
  match xs, (show xs.length = 2 from hn), cs, hl with
  | [x0, x1], _, [a, b], _ =>
    simp only [List.map_cons, List.map_nil, List.cons.injEq, and_true] at hx
    have e0 := hf 0 f0 rfl
    have e1 := hf 1 f1 rfl
    rw [h0o, h0c] at e0
    rw [h1o, h1c] at e1
    simp only [List.drop_zero, List.take_succ_cons, List.take_zero, List.getElem?_cons_zero, List.drop_succ_cons, List.getElem?_cons_succ] at e0 e1
    have g0 := h0 W n [a] x0.2 (by rw [hx.1.1]; exact e0)
    have g1 := h1 W n [b] x1.2 (by rw [hx.1.2]; exact e1)
    simp only [List.cons.injEq, and_true] at g0 g1
    rw [g0, g1]
theorem flat_pieces {α : Type} {m : Nat} : ∀ (cs : List α) (Ls : List (List α)), cs.length = Ls.length * m → (∀ L ∈ Ls, L.length = m) → (∀ i L, Ls[i]? = some L → (cs.drop (i * m)).take m = L) → cs = Ls.flatten
  | cs, [], hl, _, _ => by simpa using hl
  | cs, L :: Ls, hl, hm, h => by
    have h0 := h 0 L rfl
    have hml := hm L List.mem_cons_self
    rw [Nat.zero_mul, List.drop_zero] at h0
    rw [List.flatten_cons, ← h0, ← flat_pieces (cs.drop m) Ls (by rw [List.length_drop, hl, List.length_cons, Nat.add_mul]; omega) (fun L hL => hm L (List.mem_cons_of_mem _ hL)) (fun i L hi => by
      have := h (i + 1) L hi
      rw [List.drop_drop, Nat.add_comm m]
      rwa [Nat.add_mul, Nat.one_mul] at this), List.take_append_drop]
theorem Flat.array {t e n m : Nat} {ds : List (DataW Unit)} {Ls : List (List Value)} (ht : P.underlying t = some (.array n e)) (hc : P.cellsOf e = m) (hct : P.cellsOf t = Ls.length * m) (hlen : ds.length = Ls.length) (hm : ∀ L ∈ Ls, L.length = m) (hn : n = ds.length)
    (h : ∀ (i : Nat) d L, ds[i]? = some d → Ls[i]? = some L → Flat P e d L) : Flat P t (.agg ds) Ls.flatten := by
  intro W fuel cs p hd
  obtain ⟨xs, n1, rfl, hx, hl, hxn, hel⟩ := DataW.trod_array ht hd
  simp only [Prod.mk.injEq, DataW.agg.injEq] at hx
  refine flat_pieces (m := m) cs Ls (by rw [hl, hct]) hm (fun i L hi => ?_)
  have hil : i < Ls.length := (List.getElem?_eq_some_iff.1 hi).1
  obtain ⟨d, hdi⟩ : ∃ d, ds[i]? = some d := ⟨ds[i]'(by omega), List.getElem?_eq_getElem (by omega)⟩
  have e1 := hel i (by omega)
  rw [hc] at e1
  rw [hx.1, List.getElem?_map] at hdi
  obtain ⟨y, hy, rfl⟩ := Option.map_eq_some_iff.1 hdi
  rw [hy] at e1
  exact h i y.1 L (by rw [hx.1, List.getElem?_map, hy]; rfl) hi W n1 _ y.2 e1
/-- A variable on the list whose datum is flat: its block. -/
theorem laid_blk {L : List (String × DataW Unit)} {n : String} {d : DataW Unit} {V : List Value} {g t : Nat} (h : laidMet P L W) (hm : (n, d) ∈ L)
    (hg : P.globalNamed n = some g) (hty : (P.globals[g]?).map (·.type) = some t) (hf : Flat P t d V) : BlkV g V W := by
  obtain ⟨ps, hv, _⟩ := h
  obtain ⟨g', t', cs, fuel, p, hg', ht', hvar, hd⟩ := laidVars_mem hv hm
  obtain rfl := Option.some.inj (hg.symm.trans hg')
  obtain rfl := Option.some.inj (hty.symm.trans ht')
  have e := hf W fuel cs.toList p hd
  unfold World.var? at hvar
  simp only [hg, Option.bind_some] at hvar
  split at hvar
  · rename_i c ty fr hb
    injection hvar with hc
    subst hc
    exact ⟨ty, fr, by rw [hb, ← e]⟩
  · cases hvar
def isSent : DataW Unit → Bool
  | .iface _ (.ptr (.agg [.lit (.string _)])) => true
  | _ => false
theorem isSent_form {d : DataW Unit} (h : isSent d = true) : ∃ nm text, d = .iface nm (.ptr (.agg [.lit (.string text)])) := by
  unfold isSent at h
  split at h
  · exact ⟨_, _, rfl⟩
  · cases h
section
variable {nm : String} {ti tp te ts : TypeId} {ms : Array (String × TypeId)} {f : Field}
  (hi : P.underlying ti = some (.interface ms)) (hrow : ∀ u, P.typeName? 3 u = some nm → u = tp)
  (hp : P.underlying tp = some (.pointer te)) (he : P.underlying te = some (.struct #[f])) (hft : f.type = ts) (hfo : f.offset = 0) (hs : P.underlying ts = some .string) (hc : P.cellsOf te = 1) (hcs : P.cellsOf ts = 1)
include hi hrow hp he hft hfo hs hc hcs
theorem sents_of : ∀ (L : List (String × DataW Unit)) (ps : List MemPlace), DataW.LaidVars P W L ps → ps.Nodup →
    (∀ b off, MemPlace.cell b off ∈ ps → (∃ c t, W.heap[b]? = some (.cells c t (0, 0))) ∧ ∀ u v, W.cell? ⟨b, off, none⟩ = some (.iface u v) → Value.okWide P W .any 0 u v) →
    (∀ x ∈ L, isSent x.2 = true → (∃ text, x.2 = .iface nm (.ptr (.agg [.lit (.string text)]))) ∧ ∃ g, P.globalNamed x.1 = some g ∧ (P.globals[g]?).map (·.type) = some ti) →
    ∃ F : List (String × Addr), F.map (·.1) = (L.filter (fun x => isSent x.2)).map (·.1) ∧
      (∀ x ∈ F, ∃ g, P.globalNamed x.1 = some g ∧ W.cell? ⟨g, 0, none⟩ = some (.iface tp (.pointer (some x.2)))) ∧
      (∀ x ∈ F, MemPlace.cell x.2.block x.2.off ∈ ps) ∧ (F.map fun x => (x.2.block, x.2.off)).Nodup
  | [], ps, _, _, _, _ => ⟨[], rfl, (fun _ h => by cases h), (fun _ h => by cases h), List.nodup_nil⟩
  | (n0, d0) :: r, ps, ⟨g, t, cs, fuel, p, q, hg, ht, hv, hd, hr, e⟩, hnd, hgood, hL => by
    subst e
    have hq : q.Nodup := List.Nodup.sublist (List.sublist_append_right _ _) hnd
    obtain ⟨F, h1, h2, h3, h4⟩ := sents_of r q hr hq (fun b off hm => hgood b off (List.mem_append_right _ hm)) (fun x hx => hL x (List.mem_cons_of_mem _ hx))
    cases hsd : isSent d0 with
    | false => exact ⟨F, by simp [hsd, h1], h2, fun x hx => List.mem_append_right _ (h3 x hx), h4⟩
    | true =>
      obtain ⟨⟨text, hd0⟩, g', hg', ht'⟩ := hL (n0, d0) List.mem_cons_self hsd
      simp only at hd0 hg'
      subst hd0
      obtain rfl := Option.some.inj (hg.symm.trans hg')
      obtain rfl := Option.some.inj (ht.symm.trans ht')
      obtain ⟨l0⟩ := cs
      have ok0 : ∀ u v, l0 = [.iface u v] → Value.okWide P W .any 0 u v := fun u v e => by
        subst e
        exact (hgood g 0 (by simp [MemPlace.row])).2 u v (by simpa using World.var?_cell hg hv 0)
      obtain ⟨a0, s0, rfl, hc0, hs0, hz0, rfl⟩ := errorString_of_trod hi hrow hp he hft hfo hs hc hcs hd ok0
      have hin : MemPlace.cell a0.block a0.off ∈ MemPlace.row ⟨g, 0, none⟩ (#[Value.iface tp (.pointer (some a0))] : Array Value).size ++ MemPlace.row a0 1 := by simp [MemPlace.row]
      refine ⟨(n0, a0) :: F, by simp [hsd, h1], ?_, ?_, ?_⟩
      · intro x hx
        rcases List.mem_cons.1 hx with e | e
        · subst e; exact ⟨g, hg, by simpa using World.var?_cell hg hv 0⟩
        · exact h2 x e
      · intro x hx
        rcases List.mem_cons.1 hx with e | e
        · subst e; exact List.mem_append_left _ hin
        · exact List.mem_append_right _ (h3 x e)
      · rw [List.map_cons, List.nodup_cons]
        refine ⟨fun hm => ?_, h4⟩
        obtain ⟨x, hx, e⟩ := List.mem_map.1 hm
        injection e with e1 e2
        have hxq := h3 x hx
        rw [e1, e2] at hxq
        exact (List.nodup_append.1 hnd).2.2 _ hin _ hxq rfl
end
/-! ### places for all numbers -/
def enc64 (c : Int) : Nat := if 0 ≤ c then 2 * c.toNat else 2 * (-c).toNat + 1
theorem enc64_inj {a b : Int} (h : enc64 a = enc64 b) : a = b := by unfold enc64 at h; split at h <;> split at h <;> omega
def pickA (code : String → Option Int) (F : List (String × Addr)) (c : Int) : Option Addr := (F.find? fun x => code x.1 == some c).map (·.2)
def topOff (F : List (String × Addr)) : Nat := F.foldr (fun x m => max x.2.off m) 0
theorem topOff_le {F : List (String × Addr)} {x : String × Addr} (h : x ∈ F) : x.2.off ≤ topOff F := by
  induction F with
  | nil => cases h
  | cons y r ih =>
    simp only [topOff, List.foldr_cons]
    rcases List.mem_cons.1 h with e | e
    · subst e; omega
    · have := ih e; simp only [topOff] at this; omega
def addrOf (code : String → Option Int) (F : List (String × Addr)) (b0 : Nat) (c : Int) : Addr := match pickA code F c with
  | some a => a
  | none => ⟨b0, topOff F + 1 + enc64 c, none⟩
theorem pickA_mem {code : String → Option Int} {F : List (String × Addr)} {c : Int} {a : Addr} (h : pickA code F c = some a) : ∃ n, (n, a) ∈ F ∧ code n = some c := by
  unfold pickA at h
  obtain ⟨x, hx, rfl⟩ := Option.map_eq_some_iff.1 h
  exact ⟨x.1, List.mem_of_find?_eq_some hx, by simpa using List.find?_some hx⟩
theorem nodup_key {F : List (String × Addr)} (hF : (F.map fun x => (x.2.block, x.2.off)).Nodup) {x y : String × Addr} (hx : x ∈ F) (hy : y ∈ F) (e : x.2 = y.2) : x = y := by
  induction F with
  | nil => cases hx
  | cons z r ih =>
    rw [List.map_cons, List.nodup_cons] at hF
    rcases List.mem_cons.1 hx with e1 | e1 <;> rcases List.mem_cons.1 hy with e2 | e2
    · rw [e1, e2]
    · subst e1; exact absurd (List.mem_map.2 ⟨y, e2, by rw [e]⟩) hF.1
    · subst e2; exact absurd (List.mem_map.2 ⟨x, e1, by rw [e]⟩) hF.1
    · exact ih hF.2 e1 e2
theorem addrOf_inj {code : String → Option Int} {F : List (String × Addr)} {b0 : Nat} (hF : (F.map fun x => (x.2.block, x.2.off)).Nodup) {a b : Int} (h : addrOf code F b0 a = addrOf code F b0 b) : a = b := by
  unfold addrOf at h
  cases ha : pickA code F a with
  | some x =>
    obtain ⟨n, hn, hc⟩ := pickA_mem ha
    cases hb : pickA code F b with
    | some y =>
      obtain ⟨m, hm, hd⟩ := pickA_mem hb
      rw [ha, hb] at h
      have := nodup_key hF hn hm h
      injection this with e _
      subst e
      exact Option.some.inj (hc.symm.trans hd)
    | none =>
      rw [ha, hb] at h
      have h1 := topOff_le hn
      have h2 : x = (⟨b0, topOff F + 1 + enc64 b, none⟩ : Addr) := h
      rw [h2] at h1
      simp only at h1; omega
  | none =>
    cases hb : pickA code F b with
    | some y =>
      obtain ⟨m, hm, hd⟩ := pickA_mem hb
      rw [ha, hb] at h
      have h1 := topOff_le hm
      have h2 : (⟨b0, topOff F + 1 + enc64 a, none⟩ : Addr) = y := h
      rw [← h2] at h1
      simp only at h1; omega
    | none =>
      rw [ha, hb] at h
      injection h with _ h _
      exact enc64_inj (by omega)
theorem addrOf_at {code : String → Option Int} {F : List (String × Addr)} {b0 : Nat} (hn : (F.map (·.1)).Nodup) (hcode : ∀ n ∈ F.map (·.1), ∀ m ∈ F.map (·.1), ∀ c, code n = some c → code m = some c → n = m) {n : String} {a : Addr} {c : Int} (hm : (n, a) ∈ F) (hc : code n = some c) : addrOf code F b0 c = a := by
  unfold addrOf
  cases hp : pickA code F c with
  | none =>
    unfold pickA at hp
    have := List.find?_eq_none.1 (Option.map_eq_none_iff.1 hp) (n, a) hm
    simp [hc] at this
  | some x =>
    obtain ⟨m, hm2, hc2⟩ := pickA_mem hp
    have e := hcode n (List.mem_map.2 ⟨_, hm, rfl⟩) m (List.mem_map.2 ⟨_, hm2, rfl⟩) c hc hc2
    subst e
    have : ∀ {F : List (String × Addr)}, (F.map (·.1)).Nodup → (n, a) ∈ F → (n, x) ∈ F → x = a := by
      intro F hn h1 h2
      induction F with
      | nil => cases h1
      | cons z r ih =>
        rw [List.map_cons, List.nodup_cons] at hn
        rcases List.mem_cons.1 h1 with e1 | e1 <;> rcases List.mem_cons.1 h2 with e2 | e2
        · rw [← e1] at e2; injection e2
        · exact absurd (List.mem_map.2 ⟨_, e2, by rw [← e1]⟩) hn.1
        · exact absurd (List.mem_map.2 ⟨_, e1, by rw [← e2]⟩) hn.1
        · exact ih hn.2 e1 e2
    exact this hn hm hm2
end
/-! ### this program's refusals -/
theorem star_err : "*" ++ "errors.errorString" = "*errors.errorString" := by decide +kernel
theorem row_err (u : TypeId) (h : Tryd.prog.typeName? 3 u = some "*errors.errorString") : u = 143 :=
  typeName_ptr_named (nm := "errors.errorString") (by rw [star_err]; kernel_rfl) (by kernel_rfl) (by decide) u (by rw [star_err]; exact h)
theorem cells_err : Tryd.prog.cellsOf 158 = 1 := by kernel_rfl
theorem cells_str : Tryd.prog.cellsOf 9 = 1 := by kernel_rfl
def errNames : List String := ["usher/api.ErrArg", "usher/api.ErrText", "usher/api.ErrMany", "usher/api.ErrTwice", "usher/api.ErrScheme", "usher/api.ErrShort", "usher/api.ErrDry", "usher/api.ErrTaken", "usher/api.ErrFull", "usher/api.ErrDead", "usher/api.ErrLog", "usher/api.ErrLost", "usher/api.ErrDenied"]
def codeOf (n : String) : Option Int := (errNames.findIdx? (fun x => x == n)).map fun (i : Nat) => ((i : Int) + 1)
noncomputable def sentGood (x : String × DataW Unit) : Bool := (match x.2 with
    | .iface nm (.ptr (.agg [.lit (.string _)])) => nm == "*errors.errorString"
    | _ => true) && (!isSent x.2 || (match Tryd.prog.globalNamed x.1 with
    | some g => (Tryd.prog.globals[g]?).map (·.type) == some 28
    | none => false))
theorem sentGood_out {x : String × DataW Unit} (h : sentGood x = true) (hs : isSent x.2 = true) :
    (∃ text, x.2 = .iface "*errors.errorString" (.ptr (.agg [.lit (.string text)]))) ∧ ∃ g, Tryd.prog.globalNamed x.1 = some g ∧ (Tryd.prog.globals[g]?).map (·.type) = some 28 := by
  obtain ⟨n, d⟩ := x
  obtain ⟨nm, text, rfl⟩ := isSent_form hs
  unfold sentGood at h
  simp only [hs, Bool.not_true, Bool.false_or, Bool.and_eq_true, beq_iff_eq] at h
  obtain ⟨h1, h2⟩ := h
  refine ⟨⟨text, by simp only; rw [h1]⟩, ?_⟩
  split at h2
  · rename_i g hg; exact ⟨g, hg, by simpa using h2⟩
  · cases h2
def headBlock : List (String × Addr) → Nat
  | [] => 0
  | x :: _ => x.2.block
theorem mk_sent {L : List (String × DataW Unit)} {W : World} (h : laidMet Tryd.prog L W) (hgood : L.all sentGood = true) (hn : ((L.filter (fun x => isSent x.2)).map (·.1)).Nodup)
    (hcode : ∀ n ∈ (L.filter (fun x => isSent x.2)).map (·.1), ∀ m ∈ (L.filter (fun x => isSent x.2)).map (·.1), ∀ c, codeOf n = some c → codeOf m = some c → n = m) :
    ∃ inst : Sent, (∀ n ∈ (L.filter (fun x => isSent x.2)).map (·.1), ∀ c g, codeOf n = some c → Tryd.prog.globalNamed n = some g → @ErrAt inst g c W) ∧
      ((L.filter (fun x => isSent x.2)).isEmpty = false → @SentOk inst W) := by
  obtain ⟨ps, hv, hnd, hrows⟩ := h
  obtain ⟨F, h1, h2, h3, h4⟩ := sents_of Tryd.underlying28 row_err Tryd.underlying143 Tryd.underlying158 rfl rfl Tryd.underlying9 cells_err cells_str L ps hv hnd hrows (fun x hx hs => sentGood_out (List.all_eq_true.1 hgood x hx) hs)
  rw [← h1] at hn hcode
  let b0 : Nat := headBlock F
  let inst : Sent := ⟨addrOf codeOf F b0, addrOf_inj h4⟩
  refine ⟨inst, ?_, ?_⟩
  · intro n hm c g hc hg
    rw [← h1] at hm
    obtain ⟨x, hx, rfl⟩ := List.mem_map.1 hm
    obtain ⟨g', hg', hcell⟩ := h2 x hx
    obtain rfl := Option.some.inj (hg.symm.trans hg')
    have : addrOf codeOf F b0 c = x.2 := addrOf_at hn hcode hx hc
    show W.cell? _ = some (.iface _ (.pointer (some (addrOf codeOf F b0 c))))
    rw [this]; exact hcell
  · intro hne c
    obtain ⟨y, r, hF⟩ : ∃ y r, F = y :: r := by
      cases F with
      | nil => simp at h1; rw [List.isEmpty_eq_false_iff_exists_mem] at hne; obtain ⟨z, hz⟩ := hne; simp at hz; have := h1 z.1 z.2 hz.1; simp [this] at hz
      | cons y r => exact ⟨y, r, rfl⟩
    show ∃ cs t, W.heap[(addrOf codeOf F b0 c).block]? = some (.cells cs t (0, 0))
    unfold addrOf
    cases hp : pickA codeOf F c with
    | some a =>
      obtain ⟨n, hm, _⟩ := pickA_mem hp
      exact (hrows _ _ (h3 _ hm)).1
    | none =>
      have hb : b0 = y.2.block := by simp only [b0, hF, headBlock]
      simp only [hb]
      exact (hrows _ _ (h3 y (by rw [hF]; exact List.mem_cons_self))).1
theorem code_at {n : String} {c : Int} (h : codeOf n = some c) : errNames[(c - 1).toNat]? = some n := by
  unfold codeOf at h
  obtain ⟨i, hi, rfl⟩ := Option.map_eq_some_iff.1 h
  obtain ⟨hl, hp, _⟩ := List.findIdx?_eq_some_iff_getElem.1 hi
  have e : errNames[i] = n := by simpa using hp
  rw [show ((i : Int) + 1 - 1).toNat = i by omega, List.getElem?_eq_getElem hl, e]
theorem code_once (n m : String) (c : Int) (h1 : codeOf n = some c) (h2 : codeOf m = some c) : n = m :=
  Option.some.inj ((code_at h1).symm.trans (code_at h2))
-- tables {
theorem reply_phrases_laid {W : World} {L : List (String × DataW Unit)} (hm : ("usher/reply.phrases", DataW.agg (phrasesL.map fun x => .agg [.lit (.int .i64 x.1), .lit (.string x.2)])) ∈ L) (h : laidMet Tryd.prog L W) : BlkV 8 phrasesV W :=
  laid_blk h hm (by kernel_rfl) (t := 98) (by kernel_rfl) (Flat.array (n := 17) (e := 97) (m := 2) (Ls := phrasesL.map fun x => [.int .i64 x.1, .string ⟨x.2.toArray⟩]) Tryd.underlying98 (by kernel_rfl) (by kernel_rfl) (by decide) (by decide +kernel) (by decide) (fun i d L hd hL => by
    rw [List.getElem?_map] at hd hL
    obtain ⟨x, hx, rfl⟩ := Option.map_eq_some_iff.1 hd
    rw [hx] at hL
    injection hL with hL
    subst hL
    exact Flat.struct2 Tryd.underlying97 (by kernel_rfl) rfl rfl (by kernel_rfl) (by kernel_rfl) (Flat.int Tryd.underlying3) (Flat.string Tryd.underlying9)))
theorem reply_own_laid {W : World} {L : List (String × DataW Unit)} (hm : ("usher/reply.own", DataW.agg (ownL.map fun x => .lit (.string x))) ∈ L) (h : laidMet Tryd.prog L W) : BlkV 9 ownV W :=
  laid_blk h hm (by kernel_rfl) (t := 99) (by kernel_rfl) (Flat.array (n := 3) (e := 9) (m := 1) (Ls := ownL.map fun x => [.string ⟨x.toArray⟩]) Tryd.underlying99 (by kernel_rfl) (by kernel_rfl) (by decide) (by decide +kernel) (by decide) (fun i d L hd hL => by
    rw [List.getElem?_map] at hd hL
    obtain ⟨x, hx, rfl⟩ := Option.map_eq_some_iff.1 hd
    rw [hx] at hL
    injection hL with hL
    subst hL
    exact Flat.string Tryd.underlying9))
theorem usherlaw8_statuses_laid {W : World} {L : List (String × DataW Unit)} (hm : ("usher/usherlaw8.statuses", DataW.agg (statusesL.map fun x => .lit (.int .i64 x))) ∈ L) (h : laidMet Tryd.prog L W) : BlkV 7 statusesV W :=
  laid_blk h hm (by kernel_rfl) (t := 78) (by kernel_rfl) (Flat.array (n := 17) (e := 3) (m := 1) (Ls := statusesL.map fun x => [.int .i64 x]) Tryd.underlying78 (by kernel_rfl) (by kernel_rfl) (by decide) (by decide +kernel) (by decide) (fun i d L hd hL => by
    rw [List.getElem?_map] at hd hL
    obtain ⟨x, hx, rfl⟩ := Option.map_eq_some_iff.1 hd
    rw [hx] at hL
    injection hL with hL
    subst hL
    exact Flat.int Tryd.underlying3))
-- }
theorem field_kinds_laid {W : World} {L : List (String × DataW Unit)} (hm : ("usher/field.kinds", Lib.tabData .u8 kindsL) ∈ L) (h : laidMet Tryd.prog L W) : TabU8 16 kindsL W :=
  laid_tab h hm (by kernel_rfl) (t := 105) (m := 256) (e := 5) (by kernel_rfl) Tryd.underlying105 Tryd.underlying5 (by kernel_rfl) (by kernel_rfl)
theorem strconv_uint64pow10_laid {W : World} {L : List (String × DataW Unit)} (hm : ("internal/strconv.uint64pow10", Lib.tabData .u64 Lib.pow10Tab) ∈ L) (h : laidMet Tryd.prog L W) : TabN 19 "internal/strconv.uint64pow10" .u64 Lib.pow10Tab W :=
  ⟨by kernel_rfl, laid_tabN h hm (g := 19) (by kernel_rfl) (t := 133) (m := 20) (e := 123) (by kernel_rfl) Tryd.underlying133 Tryd.underlying123 (by kernel_rfl) (by kernel_rfl)⟩
theorem pct_unreserved_laid {W : World} {L : List (String × DataW Unit)} (hm : ("usher/pct.unreserved", Lib.tabData .u32 unresL) ∈ L) (h : laidMet Tryd.prog L W) : TabI 17 .u32 unresL W :=
  fun i hi => (laid_tabN h hm (g := 17) (by kernel_rfl) (t := 119) (m := 4) (e := 118) (by kernel_rfl) Tryd.underlying119 Tryd.underlying118 (by kernel_rfl) (by kernel_rfl)).cell (by kernel_rfl) i hi
theorem maxLen_shaped {W : World} (h : W.ShapedOpen Tryd.prog) : SomeInt 18 W := by first | exact Tryd.laysM219.s1_3 W h | exact Tryd.laysM143.s1_3 W h | exact Tryd.laysM145.s1_3 W h
/-- A list of variables is met: one run, 'no place twice' by bits. -/
theorem laidMet_by_bits {P : Program} {w : World} {l : List (String × DataW Unit)} (fuel M : Nat) (h : ((DataW.laidRun P w fuel (l.map (·.1))).bind fun x => if nodupBits M x.2 0 && laidRowsB P w x.2 then some x.1 else none) = some l) : laidMet P l w := by
  rw [Option.bind_eq_some_iff] at h
  obtain ⟨x, hx, h⟩ := h
  split at h
  · rename_i hb
    rw [Bool.and_eq_true] at hb
    have e := Option.some.inj h
    have hx' : DataW.laidRun P w fuel (l.map (·.1)) = some (l, x.2) := by rw [hx, ← e]
    exact laidMet_of_run (ps := x.2) fuel hx' (decide_eq_true (nodupBits_sound hb.1).1) hb.2
  · cases h
/-- A start whose pinned table is laid. -/
noncomputable def pinAt (W : World) : World := { W with heap := W.heap.modify 20 fun | .cells _ t x => .cells (Go.Pinned.utf8FirstZ.map fun (n : Nat) => Value.int .u8 ((n : Nat) : Int)).toArray t x | o => o }
end Go.Proofs.YtdlfdmbaejhaaaaDoor.Q
