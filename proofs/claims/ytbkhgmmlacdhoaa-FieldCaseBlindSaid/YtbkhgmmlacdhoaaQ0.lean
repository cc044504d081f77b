/- The plain Lean functions that calls of the program answer, and proofs that they do. Printed by program out of the translation; Lean checks it. -/
import Derived.Test.YtbkhgmmlacdhoaaProg
import Derived.Below
import Derived.Deep.Draws
import Derived.Deep.AppendLies
import Derived.Maps.AppendAt
import Derived.OwnWalk
import Derived.Laws.BytesArg
import Derived.Laws.MakeOwn
import Derived.Laws.OwnMore
import Derived.Deep.OwnRows
import Derived.Tactics
import Derived.Lib.ConvBytes
import Derived.Laws.Slices
import Derived.WalkKit
import Derived.KernelRfl
import Derived.RowKit3
import Derived.Deep.LoopGhost
import Derived.Deep.QuietTactic
import Derived.BigQuiet
import Derived.WideLaws
import Derived.Deep.DeepCutAuto
import Derived.Deep.CutBlock
import Derived.Deep.RegionHeld3
import Derived.Laws.Rows
import Derived.Lib.AppendStr
import Derived.ArgAppend
import Derived.Laws.IdiomCopy
import Derived.OrdersHeld
import Derived.Laws.BitsLemmas
import Derived.RowKit
import Derived.Test.YtbkhgmmlacdhoaaWWords
import Derived.Test.YtbkhgmmlacdhoaaWLast
import Derived.Test.YtbkhgmmlacdhoaaWTab
import Derived.Test.YtbkhgmmlacdhoaaWFour
import Derived.Test.YtbkhgmmlacdhoaaWQPut
import Derived.Test.YtbkhgmmlacdhoaaWApart
import Derived.Test.YtbkhgmmlacdhoaaWArr
import Derived.Test.YtbkhgmmlacdhoaaWZeros
import Derived.Test.YtbkhgmmlacdhoaaWFoot
import Derived.Test.YtbkhgmmlacdhoaaWKept
import Derived.Test.YtbkhgmmlacdhoaaWShare
import Derived.Test.YtbkhgmmlacdhoaaWN
import Derived.Test.YtbkhgmmlacdhoaaWFootNe
import Derived.Test.YtbkhgmmlacdhoaaWAt
import Derived.Test.YtbkhgmmlacdhoaaWEqStruct
import Derived.Test.YtbkhgmmlacdhoaaWRepsOne
import Derived.Test.YtbkhgmmlacdhoaaWInv
import Derived.Test.YtbkhgmmlacdhoaaWInvWords
import Derived.Test.YtbkhgmmlacdhoaaWGuard
import Derived.Test.YtbkhgmmlacdhoaaWNEv
import Derived.Test.YtbkhgmmlacdhoaaWMore
import Derived.Test.YtbkhgmmlacdhoaaGlob
namespace Go.Proofs.Ytbkhgmmlacdhoaa.Q
open Go.RowKit Go.Proofs.YtbkhgmmlacdhoaaW.PrintWords Go.Proofs.YtbkhgmmlacdhoaaW.PrintLast Go.Proofs.YtbkhgmmlacdhoaaW.PrintMore
attribute [local go_sem] max2_int min2_int max_two min_two max_three min_three max_four min_four   -- for this text's walks alone
set_option linter.unusedVariables false
set_option linter.unusedSimpArgs false




theorem info5 : (Try.prog.info? 5).map (fun i => (i.zero, i.size, i.bytes)) = some (some (.int .u8 0), 1, 1) := by kernel_rfl
theorem info34 : (Try.prog.info? 34).map (fun i => (i.zero, i.size, i.bytes)) = some (some (.agg #[(.string ⟨#[]⟩), (.string ⟨#[]⟩)]), 2, 32) := by kernel_rfl
-- the values' own types
/-! #### struct type 34 -/
structure S34 where
  f0 : ByteArray
  f1 : ByteArray
def z34 : S34 := ⟨(⟨#[]⟩ : ByteArray), (⟨#[]⟩ : ByteArray)⟩
def k34 : Kd S34 := Kd.iso (Kd.pair Kd.string Kd.string) (fun x : S34 => (x.f0, x.f1))
theorem k34_open {w : World} {x : S34} {cs : List Value} (h : k34.K w x cs) : cs = [.string x.f0, .string x.f1] := by
  obtain ⟨_, _, rfl, rfl, rfl⟩ := h
  exact rfl
theorem k34_openM {w : World} {base : Nat} {ok : Nat → Prop} {x : S34} {cs : List Value} (h : k34.M w base ok x cs) : cs = [.string x.f0, .string x.f1] := by
  obtain ⟨_, _, rfl, rfl, rfl⟩ := h
  exact rfl
theorem k34_mk (w : World) (x : S34)  : k34.K w x [.string x.f0, .string x.f1] := ⟨[.string x.f0], [.string x.f1], rfl, rfl, rfl⟩
theorem k34_mkM (w : World) (base : Nat) (ok : Nat → Prop) (x : S34)  : k34.M w base ok x [.string x.f0, .string x.f1] := ⟨[.string x.f0], [.string x.f1], rfl, rfl, rfl⟩
def rd_T34 (xs : List S34) (i : Int) : S34 := xs.getD i.toNat z34
theorem at_T34 {w : World} {A : Option Addr} {n : Nat} {xs : List S34} (h : Kd.C k34 w A n xs) (i : Int) (h0 : 0 ≤ i) (h1 : i < n) : ∃ ad , A = some ad ∧ w.cell? (ad.add (i.toNat * 2)) = some (.string (rd_T34 xs i).f0) ∧ w.cell? ⟨(ad.add (i.toNat * 2)).block, (ad.add (i.toNat * 2)).off + 1, none⟩ = some (.string (rd_T34 xs i).f1) := by
  obtain ⟨ad, c, e, _, hK, hc0⟩ := Kd.C_get h z34 i h0 h1
  have hc : ∀ j u, c[j]? = some u → w.cell? (ad.add (i.toNat * 2 + j)) = some u := hc0
  obtain rfl := k34_open hK
  exact ⟨ad, e, hc 0 _ rfl, by rw [← add_field _ _ 1 (by omega)]; exact hc 1 _ rfl⟩

end Go.Proofs.Ytbkhgmmlacdhoaa.Q
