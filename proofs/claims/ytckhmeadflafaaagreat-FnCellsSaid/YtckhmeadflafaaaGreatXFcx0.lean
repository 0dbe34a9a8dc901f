/- Functions of the program as plain Lean functions, each with the proof that the machine's call does what it says: written by a program of this session out of the translation. -/
import Derived.Test.YtckhmeadflafaaaGreatProg
import Derived.Below
import Derived.Deep.Draws
import Derived.Deep.AppendLies
import Derived.Maps.AppendAt
import Derived.OwnWalk
import Derived.Laws.BytesArg
import Derived.Laws.MakeOwn
import Derived.Laws.OwnMore
import Derived.Deep.OwnRows
import Derived.Tactics
import Derived.Lib.ConvBytes
import Derived.Laws.Slices
import Derived.WalkKit
import Derived.KernelRfl
import Derived.RowKit3
import Derived.Deep.LoopGhost
import Derived.Deep.QuietTactic
import Derived.BigQuiet
import Derived.WideLaws
import Derived.Deep.DeepCutAuto
import Derived.Deep.CutBlock
import Derived.Deep.RegionHeld3
import Derived.Laws.Rows
import Derived.Lib.AppendStr
import Derived.ArgAppend
import Derived.Laws.IdiomCopy
import Derived.OrdersHeld
import Derived.Laws.BitsLemmas
import Derived.RowKit
import Derived.Test.YtckhmeadflafaaaGreatVFc
namespace Go.Proofs.YtckhmeadflafaaaGreat.XFc
open Go.RowKit Go.Proofs.YtckhmeadflafaaaGreatW.PrintWords Go.Proofs.YtckhmeadflafaaaGreatW.PrintLast Go.Proofs.YtckhmeadflafaaaGreatW.PrintMore
attribute [local go_sem] max2_int min2_int max_two min_two max_three min_three max_four min_four   -- for this text's walks alone
set_option linter.unusedVariables false
set_option linter.unusedSimpArgs false
def errW : Option Int → Value
 | none => .nilIface
 | some c => .iface 0 (.int .i64 c)
theorem errW_none : errW none = .nilIface := rfl
theorem errW_some (c : Int) : errW (some c) = .iface 0 (.int .i64 c) := rfl
theorem info3 : (Tryz.prog.info? 3).map (fun i => (i.zero, i.size, i.bytes)) = some (some (.int .i64 0), 1, 8) := by kernel_rfl
theorem info4 : (Tryz.prog.info? 4).map (fun i => (i.zero, i.size, i.bytes)) = some (some (.bool false), 1, 1) := by kernel_rfl
theorem info24 : (Tryz.prog.info? 24).map (fun i => (i.zero, i.size, i.bytes)) = some (some (.slice none 0 0), 1, 24) := by kernel_rfl
theorem info37 : (Tryz.prog.info? 37).map (fun i => (i.zero, i.size, i.bytes)) = some (some (.agg #[(.int .i64 0), (.int .i64 0)]), 2, 16) := by kernel_rfl
-- the values' own types
/-! #### struct type 37 -/
structure S37 where
 f0 : Int
 f1 : Int
def z37 : S37 := ⟨(0 : Int), (0 : Int)⟩
def k37 : Kd S37 := Kd.iso (Kd.pair (Kd.int .i64) (Kd.int .i64)) (fun x : S37 => (x.f0, x.f1))
theorem k37_open {w : World} {x : S37} {cs : List Value} (h : k37.K w x cs) : cs = [.int .i64 x.f0, .int .i64 x.f1] := by
 obtain ⟨_, _, rfl, rfl, rfl⟩ := h; exact rfl
theorem k37_openM {w : World} {base : Nat} {ok : Nat → Prop} {x : S37} {cs : List Value} (h : k37.M w base ok x cs) : cs = [.int .i64 x.f0, .int .i64 x.f1] := by
 obtain ⟨_, _, rfl, rfl, rfl⟩ := h; exact rfl
theorem k37_mk (w : World) (x : S37)  : k37.K w x [.int .i64 x.f0, .int .i64 x.f1] := ⟨[.int .i64 x.f0], [.int .i64 x.f1], rfl, rfl, rfl⟩
theorem k37_mkM (w : World) (base : Nat) (ok : Nat → Prop) (x : S37)  : k37.M w base ok x [.int .i64 x.f0, .int .i64 x.f1] := ⟨[.int .i64 x.f0], [.int .i64 x.f1], rfl, rfl, rfl⟩
theorem k37_mkF (W : World) (ok : Nat → Prop) (x : S37) : Kd.FK k37 W ok x [.int .i64 x.f0, .int .i64 x.f1] := fun W2 _ => k37_mk W2 x
def rd_T37 (xs : List S37) (i : Int) : S37 := xs.getD i.toNat z37
theorem at_T37 {w : World} {A : Option Addr} {n : Nat} {xs : List S37} (h : Kd.C k37 w A n xs) (i : Int) (h0 : 0 ≤ i) (h1 : i < n) : ∃ ad , A = some ad ∧ w.cell? (ad.add (i.toNat * 2)) = some (.int .i64 (rd_T37 xs i).f0) ∧ w.cell? ⟨(ad.add (i.toNat * 2)).block, (ad.add (i.toNat * 2)).off + 1, none⟩ = some (.int .i64 (rd_T37 xs i).f1) := by
 obtain ⟨ad, c, e, _, hK, hc0⟩ := Kd.C_get h z37 i h0 h1; have hc : ∀ j u, c[j]? = some u → w.cell? (ad.add (i.toNat * 2 + j)) = some u := hc0; obtain rfl := k37_open hK; exact ⟨ad, e, hc 0 _ rfl, by rw [← add_field _ _ 1 (by omega)]; exact hc 1 _ rfl⟩
def rd_L4 (xs : List (List S37)) (i : Int) : (List S37) := xs.getD i.toNat ([] : List S37)
theorem at_L4 {w : World} {A : Option Addr} {n : Nat} {xs : List (List S37)} (h : Kd.C (Kd.slice 37 k37) w A n xs) (i : Int) (h0 : 0 ≤ i) (h1 : i < n) : ∃ ad A0 c0, A = some ad ∧ w.cell? (ad.add i.toNat) = some (.slice A0 (rd_L4 xs i).length c0) ∧ (rd_L4 xs i).length ≤ c0 ∧ k37.C w A0 (rd_L4 xs i).length (rd_L4 xs i) := by
 obtain ⟨ad, c, e, _, hK, hc0⟩ := Kd.C_get h ([] : List S37) i h0 h1; have hc : ∀ j u, c[j]? = some u → w.cell? (ad.add (i.toNat * 1 + j)) = some u := hc0; obtain ⟨A0, c0, rfl, l0, g0⟩ := hK; exact ⟨ad, A0, c0, e, by have hq := hc 0 _ rfl; rwa [Nat.mul_one, Nat.add_zero] at hq, l0, g0⟩
def rd_L5 (xs : List (List Int)) (i : Int) : (List Int) := xs.getD i.toNat ([] : List Int)
theorem at_L5 {w : World} {A : Option Addr} {n : Nat} {xs : List (List Int)} (h : Kd.C (Kd.slice 3 (Kd.int .i64)) w A n xs) (i : Int) (h0 : 0 ≤ i) (h1 : i < n) : ∃ ad A0 c0, A = some ad ∧ w.cell? (ad.add i.toNat) = some (.slice A0 (rd_L5 xs i).length c0) ∧ (rd_L5 xs i).length ≤ c0 ∧ (Kd.int .i64).C w A0 (rd_L5 xs i).length (rd_L5 xs i) := by
 obtain ⟨ad, c, e, _, hK, hc0⟩ := Kd.C_get h ([] : List Int) i h0 h1; have hc : ∀ j u, c[j]? = some u → w.cell? (ad.add (i.toNat * 1 + j)) = some u := hc0; obtain ⟨A0, c0, rfl, l0, g0⟩ := hK; exact ⟨ad, A0, c0, e, by have hq := hc 0 _ rfl; rwa [Nat.mul_one, Nat.add_zero] at hq, l0, g0⟩
def rd_L6 (xs : List (List (List S37))) (i : Int) : (List (List S37)) := xs.getD i.toNat ([] : List (List S37))
theorem at_L6 {w : World} {A : Option Addr} {n : Nat} {xs : List (List (List S37))} (h : Kd.C (Kd.slice 24 (Kd.slice 37 k37)) w A n xs) (i : Int) (h0 : 0 ≤ i) (h1 : i < n) : ∃ ad A0 c0, A = some ad ∧ w.cell? (ad.add i.toNat) = some (.slice A0 (rd_L6 xs i).length c0) ∧ (rd_L6 xs i).length ≤ c0 ∧ (Kd.slice 37 k37).C w A0 (rd_L6 xs i).length (rd_L6 xs i) := by
 obtain ⟨ad, c, e, _, hK, hc0⟩ := Kd.C_get h ([] : List (List S37)) i h0 h1; have hc : ∀ j u, c[j]? = some u → w.cell? (ad.add (i.toNat * 1 + j)) = some u := hc0; obtain ⟨A0, c0, rfl, l0, g0⟩ := hK; exact ⟨ad, A0, c0, e, by have hq := hc 0 _ rfl; rwa [Nat.mul_one, Nat.add_zero] at hq, l0, g0⟩
/-- The element of four. -/
def sel4 (j a b c d : Int) : Int := if j = 0 then a else if j = 1 then b else if j = 2 then c else d
theorem arrSel76_0 (v0_0 v0_1 v1_0 v1_1 v2_0 v2_1 v3_0 v3_1 : Int) (w : World) : (Instr.index 76 (.agg #[.int .i64 v0_0, .int .i64 v0_1, .int .i64 v1_0, .int .i64 v1_1, .int .i64 v2_0, .int .i64 v2_1, .int .i64 v3_0, .int .i64 v3_1]) (.int .i64 0)).run Tryz.prog w = .ok (.agg #[.int .i64 v0_0, .int .i64 v0_1]) w := by kernel_rfl
theorem arrSel76_1 (v0_0 v0_1 v1_0 v1_1 v2_0 v2_1 v3_0 v3_1 : Int) (w : World) : (Instr.index 76 (.agg #[.int .i64 v0_0, .int .i64 v0_1, .int .i64 v1_0, .int .i64 v1_1, .int .i64 v2_0, .int .i64 v2_1, .int .i64 v3_0, .int .i64 v3_1]) (.int .i64 1)).run Tryz.prog w = .ok (.agg #[.int .i64 v1_0, .int .i64 v1_1]) w := by kernel_rfl
theorem arrSel76_2 (v0_0 v0_1 v1_0 v1_1 v2_0 v2_1 v3_0 v3_1 : Int) (w : World) : (Instr.index 76 (.agg #[.int .i64 v0_0, .int .i64 v0_1, .int .i64 v1_0, .int .i64 v1_1, .int .i64 v2_0, .int .i64 v2_1, .int .i64 v3_0, .int .i64 v3_1]) (.int .i64 2)).run Tryz.prog w = .ok (.agg #[.int .i64 v2_0, .int .i64 v2_1]) w := by kernel_rfl
theorem arrSel76_3 (v0_0 v0_1 v1_0 v1_1 v2_0 v2_1 v3_0 v3_1 : Int) (w : World) : (Instr.index 76 (.agg #[.int .i64 v0_0, .int .i64 v0_1, .int .i64 v1_0, .int .i64 v1_1, .int .i64 v2_0, .int .i64 v2_1, .int .i64 v3_0, .int .i64 v3_1]) (.int .i64 3)).run Tryz.prog w = .ok (.agg #[.int .i64 v3_0, .int .i64 v3_1]) w := by kernel_rfl
theorem arrSel76 (v0_0 v0_1 v1_0 v1_1 v2_0 v2_1 v3_0 v3_1 j : Int) (h0 : 0 ≤ j) (h1 : j < 4) (w : World) : (Instr.index 76 (.agg #[.int .i64 v0_0, .int .i64 v0_1, .int .i64 v1_0, .int .i64 v1_1, .int .i64 v2_0, .int .i64 v2_1, .int .i64 v3_0, .int .i64 v3_1]) (.int .i64 j)).run Tryz.prog w = .ok (.agg #[.int .i64 (sel4 j v0_0 v1_0 v2_0 v3_0), .int .i64 (sel4 j v0_1 v1_1 v2_1 v3_1)]) w := by
 have hj : j = 0 ∨ j = 1 ∨ j = 2 ∨ j = 3 := by omega
 rcases hj with rfl | rfl | rfl | rfl
 ·exact arrSel76_0 v0_0 v0_1 v1_0 v1_1 v2_0 v2_1 v3_0 v3_1 w
 ·exact arrSel76_1 v0_0 v0_1 v1_0 v1_1 v2_0 v2_1 v3_0 v3_1 w
 ·exact arrSel76_2 v0_0 v0_1 v1_0 v1_1 v2_0 v2_1 v3_0 v3_1 w
 ·exact arrSel76_3 v0_0 v0_1 v1_0 v1_1 v2_0 v2_1 v3_0 v3_1 w
/-- The variable that a closure holds: a row that is read. -/
def CapR (w : World) (pc : Addr) (g : List (S37)) : Prop := ∃ A c, w.cell? pc = some (.slice A g.length c) ∧ g.length ≤ c ∧ Kd.C k37 w A g.length g
theorem capr_at {w W : World} {pc : Addr} {g : List (S37)} (hb : Below w.heap.size w W) (hcap : CapR w pc g) : CapR W pc g := by
 obtain ⟨A, c, h1, h2, h3⟩ := hcap; exact ⟨A, c, (hb.cell (World.block_lt_of_cell? w _ h1)).trans h1, h2, Kd.C_below h3 hb⟩
theorem cap_at {w W : World} {pc : Addr} {v : Value} (hb : Below w.heap.size w W) (hcap : w.cell? pc = some v) : W.cell? pc = some v := (hb.cell (World.block_lt_of_cell? w _ hcap)).trans hcap
/-! shorter words: what follows from the context is found by what stands behind ':=' -/
theorem bq {n : Nat} {w0 W : World} (h : Below n w0 W := by (repeat (first | (with_reducible first | exact Aside0.out (by assumption) | apply below_alloc | apply pw_below_drewN | apply below_drew1) | exact Aside0.out (by assumption) | exact Below.refl _ _))) : Below n w0 W := h
theorem kq {w W : World} {S : Nat → Prop} (h : Kept w W S := by (repeat (first | (with_reducible first | exact Aside0.out (by assumption) | apply Kept.alloc | apply Kept.drewN | apply Kept.drew) | exact Aside0.out (by assumption)))) : Kept w W S := h
theorem rq {α : Type} {d : Kd α} {e : Nat} {w W : World} {base : Nat} {ok : Nat → Prop} {v : Value} {xs : List α} (h : Aside0 (d.R e w base ok v xs)) (hs : Below w.heap.size w W := by (repeat (first | (with_reducible first | exact Below.refl _ _ | apply below_alloc | apply pw_below_drewN | apply below_drew1) | exact Below.refl _ _))) : d.R e W base ok v xs := Kd.R_below h.out hs
theorem cq {α : Type} {d : Kd α} {w W : World} {A : Option Addr} {n : Nat} {xs : List α} (h : d.C w A n xs) (hs : Below w.heap.size w W := by (repeat (first | (with_reducible first | exact Below.refl _ _ | apply below_alloc | apply pw_below_drewN | apply below_drew1) | exact Below.refl _ _))) : d.C W A n xs := Kd.C_below h hs
theorem uq {w W : World} {g : Nat} {o : Obj} (h : Aside0 (w.heap[g]? = some o)) (hs : Below w.heap.size w W := by (repeat (first | (with_reducible first | exact Below.refl _ _ | apply below_alloc | apply pw_below_drewN | apply below_drew1) | exact Below.refl _ _))) : W.heap[g]? = some o := blk_below h.out hs
theorem aq {p : Prop} (h : p := by (try simp only [List.map_toArray, List.map_cons, List.map_nil]); first | done | rfl | (simp only [List.length_drop, List.length_take]; rfl)) : p := h
theorem pq_ {P : Program} {ops : Array Oper} {Q : Exit → Act → World → Prop} {md : Region.Mode} {S : World → Prop} {ds : List Nat} {i : Nat} {N : Option Tmp} {oi : Oper} {v : Value} {fuel : Nat} {l : Array Bool} {a : Act} {w : World} {T : Bool × List (List Nat × List Nat)} (l' : Array Bool) {a' : Act} (HT : Aside0 (rtab md ops = T)) (h : wpAnyLast P md ops Q S ds fuel l' a' w) (hi : ops[i]? = some oi := by rfl) (hN : oi.dst = N := by rfl) (hc : anyT T l.toList l'.toList i = true := by kernel_rfl) (hQ : ∀ c a w, Q (.panic c) (a.put oi.dst v) w → Q (.panic c) a w := by exact fun _ _ _ h => h) (hy : Yields P ops oi v a := by (refine Or.inl ⟨by rfl, ?_⟩; intro w'; go_simp; with_reducible rfl)) (ha : a.put N v = a' := by (simp only [Act.put, sA, sZ, sS, i64_w, i32_w]; rfl)) : wpAnyLast P md ops Q S ds (fuel + 1) l a w := pure_ l' hi hN (any_of HT.out hc) hQ hy ha h
theorem bs {n : Nat} {w0 W : World} (h : Below n w0 W := by (repeat (first | (with_reducible first | exact Aside0.out (by assumption) | apply below_alloc | apply pw_below_drewN | apply below_drew1 | refine below_set ?_ (Aside0.out (by assumption))) | exact Aside0.out (by assumption) | exact Below.refl _ _))) : Below n w0 W := h
theorem hb_ {w W : World} {p : Addr} {v : Value} (hB : Aside0 (Below w.heap.size w W)) (h : w.cell? p = some v) : W.cell? p = some v := (hB.out.cell (World.block_lt_of_cell? w _ h)).trans h
theorem ak {p : Prop} (h : p) : Aside0 p := ⟨h⟩
theorem gL_ {P : Program} {ops : Array Oper} {Q : Exit → Act → World → Prop} {rest : List Oper} {oi : Oper} {a : Act} {w : World} (N : Option Tmp) {f : FuncId} {fn : Func} {as_ : Array Operand} {ts : Array TypeId} (hf : P.funcs[f]? = some fn) (args : Array Value) (h : Calls P f args w fun e w' => ∃ v, e = .returned v ∧ wpList P ops Q rest (a.put N v) w') (hd : oi.dst = N := by rfl) (hg : oi.guard = none := by rfl) (hname : (fn.name == "runtime.NumGoroutine") = false := by kernel_rfl) (hb : fn.body.isSome = true := by rfl) (hop : oi.op = .call { callee := .value (.func f), args := as_, argTypes := ts } := by rfl) (hargs : as_.map a.eval = args := by (try simp only [List.map_toArray, List.map_cons, List.map_nil]); first | done | rfl | (simp only [List.length_drop, List.length_take]; rfl)) : wpList P ops Q (oi :: rest) a w := goesL_ N hd hg hf hname hb args hop hargs h
theorem pz_ {P : Program} {ops : Array Oper} {Q : Exit → Act → World → Prop} {md : Region.Mode} {S : World → Prop} {ds : List Nat} {i : Nat} {N : Option Tmp} {oi : Oper} {v : Value} {fuel : Nat} {l : Array Bool} {a : Act} {w : World} {T : Bool × List (List Nat × List Nat)} (l' : Array Bool) {a' : Act} (HT : Aside0 (rtab md ops = T)) (h : wpAnyLast P md ops Q S ds fuel l' a' w) (hi : ops[i]? = some oi := by rfl) (hN : oi.dst = N := by rfl) (hc : anyT T l.toList l'.toList i = true := by kernel_rfl) (hQ : ∀ c a w, Q (.panic c) (a.put oi.dst v) w → Q (.panic c) a w := by exact fun _ _ _ h => h) (hy : Yields P ops oi v a := by exact Or.inr ⟨by rfl, rfl⟩) (ha : a.put N v = a' := by (simp only [Act.put, sA, sZ, sS, i64_w, i32_w]; rfl)) : wpAnyLast P md ops Q S ds (fuel + 1) l a w := pure_ l' hi hN (any_of HT.out hc) hQ hy ha h
theorem tk_ {P : Program} {ops : Array Oper} {Q : Exit → Act → World → Prop} {md : Region.Mode} {S : World → Prop} {ds : List Nat} {i : Nat} {N : Option Tmp} {oi : Oper} {v : Value} {fuel : Nat} {l : Array Bool} {a : Act} {w : World} {T : Bool × List (List Nat × List Nat)} {B : List Nat} (l' : Array Bool) {a' : Act} (HT : Aside0 (rtab md ops = T)) (HW : Aside0 (waitsOk T.2 B = true)) (hS : S w) (h : wpAnyLast P md ops Q S ds fuel l' a' w) (hi : ops[i]? = some oi := by rfl) (hN : oi.dst = N := by rfl) (hc : takeW T B ds l.toList l'.toList i = true := by kernel_rfl) (hQ : ∀ c a w, Q (.panic c) (a.put oi.dst v) w → Q (.panic c) a w := by exact fun _ _ _ h => h) (hy : YieldsIf P ops S oi v a := by (refine Or.inl ⟨by rfl, ?_⟩; intro w' hs_; (repeat (have hq_ := And.left hs_; replace hs_ := And.right hs_)); go_simp; with_reducible rfl)) (ha : a.put N v = a' := by (simp only [Act.put, sA, sZ, sS, i64_w, i32_w]; rfl)) : wpAnyLast P md ops Q S ds (fuel + 1) l a w := take_ l' hi hN (take_ofW HT.out HW.out hc) hQ hy hS ha h
theorem rm_ {α : Type} {d : Kd α} {e : Nat} {w : World} {base : Nat} {ok ok' : Nat → Prop} {v : Value} {xs : List α} (h : d.R e w base ok v xs) (hm : ∀ k, ok k → ok' k := by (intro k hk; first | exact trivial | ((try dsimp only at hk ⊢); (try simp only [and_assoc] at hk ⊢); (try and_intros) <;> (repeat (first | exact hk | exact hk.1 | (replace hk := hk.2)))))) : d.R e w base ok' v xs := Kd.R_mono h hm
theorem sq {p : Prop} (h : p := by first | rfl | (simp; done) | (simp [*]; done)) : p := h
theorem dq {p : Prop} [Decidable p] (h : decide p = true := by first | (with_reducible assumption) | assumption) : p := of_decide_eq_true h
theorem eq_ {p : Prop} (h : p := by first | rfl | (simp [errW_none, errW_some] <;> rfl) | (simp [*, errW_none, errW_some] <;> rfl)) : p := h
abbrev Y := true
abbrev Z := false
theorem sA.{u} {α : Type u} (l : List α) (i : Nat) (a : α) : l.toArray.setIfInBounds i a = (l.set i a).toArray := List.setIfInBounds_toArray l i a
theorem sZ.{u} {α : Type u} {a b : α} {as_ : List α} : (a :: as_).set 0 b = b :: as_ := List.set_cons_zero
theorem sS.{u} {α : Type u} {a b : α} {as_ : List α} {n : Nat} : (a :: as_).set (n + 1) b = a :: as_.set n b := List.set_cons_succ
theorem ig_ {P G : Prop} [Decidable P] {α : Type} {a : Option α} {r : α} (h : P → a = some r → G) (k : (if P then a else none) = some r) : G := by
 by_cases c : P
 · rw [if_pos c] at k; exact h c k
 · rw [if_neg c] at k; cases k
end Go.Proofs.YtckhmeadflafaaaGreat.XFc
