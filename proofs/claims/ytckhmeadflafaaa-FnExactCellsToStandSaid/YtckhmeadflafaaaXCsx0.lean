/- Functions of the program as plain Lean functions, each with the proof that the machine's call does what it says: written by a program of this session out of the translation. -/
import Derived.Test.YtckhmeadflafaaaProg
import Derived.Below
import Derived.Deep.Draws
import Derived.Deep.AppendLies
import Derived.Maps.AppendAt
import Derived.OwnWalk
import Derived.Laws.BytesArg
import Derived.Laws.MakeOwn
import Derived.Laws.OwnMore
import Derived.Deep.OwnRows
import Derived.Tactics
import Derived.Lib.ConvBytes
import Derived.Laws.Slices
import Derived.WalkKit
import Derived.KernelRfl
import Derived.RowKit3
import Derived.Deep.LoopGhost
import Derived.Deep.QuietTactic
import Derived.BigQuiet
import Derived.WideLaws
import Derived.Deep.DeepCutAuto
import Derived.Deep.CutBlock
import Derived.Deep.RegionHeld3
import Derived.Laws.Rows
import Derived.Lib.AppendStr
import Derived.ArgAppend
import Derived.Laws.IdiomCopy
import Derived.OrdersHeld
import Derived.Laws.BitsLemmas
import Derived.RowKit
import Derived.Test.YtckhmeadflafaaaVCs
namespace Go.Proofs.Ytckhmeadflafaaa.XCs
open Go.RowKit Go.Proofs.YtckhmeadflafaaaW.PrintWords Go.Proofs.YtckhmeadflafaaaW.PrintLast Go.Proofs.YtckhmeadflafaaaW.PrintMore
attribute [local go_sem] max2_int min2_int max_two min_two max_three min_three max_four min_four   -- for this text's walks alone
set_option linter.unusedVariables false
set_option linter.unusedSimpArgs false



def errW : Option Int → Value
 | none => .nilIface
 | some c => .iface 0 (.int .i64 c)
theorem errW_none : errW none = .nilIface := rfl
theorem errW_some (c : Int) : errW (some c) = .iface 0 (.int .i64 c) := rfl

theorem info3 : (Try.prog.info? 3).map (fun i => (i.zero, i.size, i.bytes)) = some (some (.int .i64 0), 1, 8) := by kernel_rfl
theorem info4 : (Try.prog.info? 4).map (fun i => (i.zero, i.size, i.bytes)) = some (some (.bool false), 1, 1) := by kernel_rfl
theorem info49 : (Try.prog.info? 49).map (fun i => (i.zero, i.size, i.bytes)) = some (some (.agg #[(.int .i64 0), (.int .i64 0)]), 2, 16) := by kernel_rfl
-- the values' own types
/-! #### struct type 49 -/
structure S49 where
 f0 : Int
 f1 : Int
def z49 : S49 := ⟨(0 : Int), (0 : Int)⟩
def k49 : Kd S49 := Kd.iso (Kd.pair (Kd.int .i64) (Kd.int .i64)) (fun x : S49 => (x.f0, x.f1))
theorem k49_open {w : World} {x : S49} {cs : List Value} (h : k49.K w x cs) : cs = [.int .i64 x.f0, .int .i64 x.f1] := by
 obtain ⟨_, _, rfl, rfl, rfl⟩ := h; exact rfl
theorem k49_openM {w : World} {base : Nat} {ok : Nat → Prop} {x : S49} {cs : List Value} (h : k49.M w base ok x cs) : cs = [.int .i64 x.f0, .int .i64 x.f1] := by
 obtain ⟨_, _, rfl, rfl, rfl⟩ := h; exact rfl
theorem k49_mk (w : World) (x : S49)  : k49.K w x [.int .i64 x.f0, .int .i64 x.f1] := ⟨[.int .i64 x.f0], [.int .i64 x.f1], rfl, rfl, rfl⟩
theorem k49_mkM (w : World) (base : Nat) (ok : Nat → Prop) (x : S49)  : k49.M w base ok x [.int .i64 x.f0, .int .i64 x.f1] := ⟨[.int .i64 x.f0], [.int .i64 x.f1], rfl, rfl, rfl⟩
def rd_T49 (xs : List S49) (i : Int) : S49 := xs.getD i.toNat z49
theorem at_T49 {w : World} {A : Option Addr} {n : Nat} {xs : List S49} (h : Kd.C k49 w A n xs) (i : Int) (h0 : 0 ≤ i) (h1 : i < n) : ∃ ad , A = some ad ∧ w.cell? (ad.add (i.toNat * 2)) = some (.int .i64 (rd_T49 xs i).f0) ∧ w.cell? ⟨(ad.add (i.toNat * 2)).block, (ad.add (i.toNat * 2)).off + 1, none⟩ = some (.int .i64 (rd_T49 xs i).f1) := by
 obtain ⟨ad, c, e, _, hK, hc0⟩ := Kd.C_get h z49 i h0 h1; have hc : ∀ j u, c[j]? = some u → w.cell? (ad.add (i.toNat * 2 + j)) = some u := hc0; obtain rfl := k49_open hK; exact ⟨ad, e, hc 0 _ rfl, by rw [← add_field _ _ 1 (by omega)]; exact hc 1 _ rfl⟩

def rd_L3 (xs : List (List S49)) (i : Int) : (List S49) := xs.getD i.toNat ([] : List S49)
theorem at_L3 {w : World} {A : Option Addr} {n : Nat} {xs : List (List S49)} (h : Kd.C (Kd.slice 49 k49) w A n xs) (i : Int) (h0 : 0 ≤ i) (h1 : i < n) : ∃ ad A0 c0, A = some ad ∧ w.cell? (ad.add i.toNat) = some (.slice A0 (rd_L3 xs i).length c0) ∧ (rd_L3 xs i).length ≤ c0 ∧ k49.C w A0 (rd_L3 xs i).length (rd_L3 xs i) := by
 obtain ⟨ad, c, e, _, hK, hc0⟩ := Kd.C_get h ([] : List S49) i h0 h1; have hc : ∀ j u, c[j]? = some u → w.cell? (ad.add (i.toNat * 1 + j)) = some u := hc0; obtain ⟨A0, c0, rfl, l0, g0⟩ := hK; exact ⟨ad, A0, c0, e, by have hq := hc 0 _ rfl; rwa [Nat.mul_one, Nat.add_zero] at hq, l0, g0⟩

/-- The element of four. -/
def sel4 (j a b c d : Int) : Int := if j = 0 then a else if j = 1 then b else if j = 2 then c else d
theorem arrSel96_0 (v0_0 v0_1 v1_0 v1_1 v2_0 v2_1 v3_0 v3_1 : Int) (w : World) : (Instr.index 96 (.agg #[.int .i64 v0_0, .int .i64 v0_1, .int .i64 v1_0, .int .i64 v1_1, .int .i64 v2_0, .int .i64 v2_1, .int .i64 v3_0, .int .i64 v3_1]) (.int .i64 0)).run Try.prog w = .ok (.agg #[.int .i64 v0_0, .int .i64 v0_1]) w := by kernel_rfl
theorem arrSel96_1 (v0_0 v0_1 v1_0 v1_1 v2_0 v2_1 v3_0 v3_1 : Int) (w : World) : (Instr.index 96 (.agg #[.int .i64 v0_0, .int .i64 v0_1, .int .i64 v1_0, .int .i64 v1_1, .int .i64 v2_0, .int .i64 v2_1, .int .i64 v3_0, .int .i64 v3_1]) (.int .i64 1)).run Try.prog w = .ok (.agg #[.int .i64 v1_0, .int .i64 v1_1]) w := by kernel_rfl
theorem arrSel96_2 (v0_0 v0_1 v1_0 v1_1 v2_0 v2_1 v3_0 v3_1 : Int) (w : World) : (Instr.index 96 (.agg #[.int .i64 v0_0, .int .i64 v0_1, .int .i64 v1_0, .int .i64 v1_1, .int .i64 v2_0, .int .i64 v2_1, .int .i64 v3_0, .int .i64 v3_1]) (.int .i64 2)).run Try.prog w = .ok (.agg #[.int .i64 v2_0, .int .i64 v2_1]) w := by kernel_rfl
theorem arrSel96_3 (v0_0 v0_1 v1_0 v1_1 v2_0 v2_1 v3_0 v3_1 : Int) (w : World) : (Instr.index 96 (.agg #[.int .i64 v0_0, .int .i64 v0_1, .int .i64 v1_0, .int .i64 v1_1, .int .i64 v2_0, .int .i64 v2_1, .int .i64 v3_0, .int .i64 v3_1]) (.int .i64 3)).run Try.prog w = .ok (.agg #[.int .i64 v3_0, .int .i64 v3_1]) w := by kernel_rfl
theorem arrSel96 (v0_0 v0_1 v1_0 v1_1 v2_0 v2_1 v3_0 v3_1 j : Int) (h0 : 0 ≤ j) (h1 : j < 4) (w : World) : (Instr.index 96 (.agg #[.int .i64 v0_0, .int .i64 v0_1, .int .i64 v1_0, .int .i64 v1_1, .int .i64 v2_0, .int .i64 v2_1, .int .i64 v3_0, .int .i64 v3_1]) (.int .i64 j)).run Try.prog w = .ok (.agg #[.int .i64 (sel4 j v0_0 v1_0 v2_0 v3_0), .int .i64 (sel4 j v0_1 v1_1 v2_1 v3_1)]) w := by
 have hj : j = 0 ∨ j = 1 ∨ j = 2 ∨ j = 3 := by omega
 rcases hj with rfl | rfl | rfl | rfl
 ·exact arrSel96_0 v0_0 v0_1 v1_0 v1_1 v2_0 v2_1 v3_0 v3_1 w
 ·exact arrSel96_1 v0_0 v0_1 v1_0 v1_1 v2_0 v2_1 v3_0 v3_1 w
 ·exact arrSel96_2 v0_0 v0_1 v1_0 v1_1 v2_0 v2_1 v3_0 v3_1 w
 ·exact arrSel96_3 v0_0 v0_1 v1_0 v1_1 v2_0 v2_1 v3_0 v3_1 w
/-- The variable that a closure holds: a row that is read. -/
def CapR (w : World) (pc : Addr) (g : List (S49)) : Prop := ∃ A c, w.cell? pc = some (.slice A g.length c) ∧ g.length ≤ c ∧ Kd.C k49 w A g.length g
theorem capr_at {w W : World} {pc : Addr} {g : List (S49)} (hb : Below w.heap.size w W) (hcap : CapR w pc g) : CapR W pc g := by
 obtain ⟨A, c, h1, h2, h3⟩ := hcap; exact ⟨A, c, (hb.cell (World.block_lt_of_cell? w _ h1)).trans h1, h2, Kd.C_below h3 hb⟩
theorem cap_at {w W : World} {pc : Addr} {v : Value} (hb : Below w.heap.size w W) (hcap : w.cell? pc = some v) : W.cell? pc = some v := (hb.cell (World.block_lt_of_cell? w _ hcap)).trans hcap
abbrev Y := true
abbrev Z := false
theorem sA.{u} {α : Type u} (l : List α) (i : Nat) (a : α) : l.toArray.setIfInBounds i a = (l.set i a).toArray := List.setIfInBounds_toArray l i a
theorem sZ.{u} {α : Type u} {a b : α} {as_ : List α} : (a :: as_).set 0 b = b :: as_ := List.set_cons_zero
theorem sS.{u} {α : Type u} {a b : α} {as_ : List α} {n : Nat} : (a :: as_).set (n + 1) b = a :: as_.set n b := List.set_cons_succ

end Go.Proofs.Ytckhmeadflafaaa.XCs
