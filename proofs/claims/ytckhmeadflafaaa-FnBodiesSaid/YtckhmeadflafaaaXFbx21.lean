/- Functions of the program as plain Lean functions, each with the proof that the machine's call does what it says: written by a program of this session out of the translation. -/
import Derived.Lib.SliceRun
import Derived.Test.YtckhmeadflafaaaXFbx0
import Derived.Test.YtckhmeadflafaaaXFbx1
import Derived.Test.YtckhmeadflafaaaXFbx19
namespace Go.Proofs.Ytckhmeadflafaaa.XFb
open Go.RowKit Go.Proofs.YtckhmeadflafaaaW.PrintWords Go.Proofs.YtckhmeadflafaaaW.PrintLast Go.Proofs.YtckhmeadflafaaaW.PrintMore
attribute [local go_sem] max2_int min2_int max_two min_two max_three min_three max_four min_four   -- for this text's walks alone
set_option linter.unusedVariables false
set_option linter.unusedSimpArgs false

attribute [local go_sem high] eqA49
/-! ### laws_rCells: function 33 -/
def laws_rCells.l0 : Nat → List (S49) → List (S49) → Int → Option (Bool)
 | 0, _, _, _ => none
 | k + 1, x0, x1, x5 => if x5 < (x0.length : Int) then (if 0 ≤ x5 then (if x5 < (x1.length : Int) then (if (!(((rd_T49 x0 x5).f0) == ((rd_T49 x1 x5).f0)) || (!(((rd_T49 x0 x5).f1) == ((rd_T49 x1 x5).f1)))) = true then (some false) else (laws_rCells.l0 k x0 x1 (wrap64 (x5 + 1)))) else (none)) else (none)) else (some true)
def laws_rCells.f (k : Nat) (l0 : List (S49)) (l1 : List (S49)) : Option (Bool) := if (l0.length : Int) = (l1.length : Int) then (laws_rCells.l0 k l0 l1 0) else (some false)
theorem laws_rCells.mono_l : ∀ k, (∀ y0 y1 y2, LeO (laws_rCells.l0 k y0 y1 y2) (laws_rCells.l0 (k + 1) y0 y1 y2))
 | 0 => fun _ _ _ r h => by simp [laws_rCells.l0] at h
 | k + 1 => by
  have ih0 := laws_rCells.mono_l k
  ·intro y0 y1 y2
   unfold laws_rCells.l0
   repeat' first
   | (with_reducible exact ih0 _ _ _)
   | (with_reducible exact LeO.refl _)
   | (with_reducible exact LeO.none _)
   | (with_reducible refine LeO.ite ?_ ?_)
   | (with_reducible refine LeO.bind ?_ (fun _ => ?_))
theorem laws_rCells.mono : ∀ a0 a1 k, LeO (laws_rCells.f k a0 a1) (laws_rCells.f (k + 1) a0 a1) := by
 intro a0 a1 k; have ih0 := laws_rCells.mono_l k
 unfold laws_rCells.f
 repeat' first
   | (with_reducible exact ih0 _ _ _)
   | (with_reducible exact LeO.refl _)
   | (with_reducible exact LeO.none _)
   | (with_reducible refine LeO.ite ?_ ?_)
   | (with_reducible refine LeO.bind ?_ (fun _ => ?_))
set_option maxHeartbeats 8000000 in
set_option maxRecDepth 100000 in
theorem laws_rCells.calls (k : Nat) (A0 : Option Addr) (c0 : Nat) (l0 : List (S49)) (A1 : Option Addr) (c1 : Nat) (l1 : List (S49)) (r : Bool) (w : World) (hr0 : Kd.C k49 w A0 l0.length l0) (hc0 : l0.length ≤ c0) (hr1 : Kd.C k49 w A1 l1.length l1) (hc1 : l1.length ≤ c1) (h : laws_rCells.f k l0 l1 = some r) :
  Calls Try.prog 33 #[.slice A0 l0.length c0, .slice A1 l1.length c1] w fun e w' => e = .returned (.bool r) ∧ Drawn0 w w' := by
 have hu49 := Try.underlying49; have HR0 := ak hr0; have HC0 := ak hc0; clear hr0 hc0; have HR1 := ak hr1; have HC1 := ak hc1; clear hr1 hc1; have H : (if (l0.length : Int) = (l1.length : Int) then (laws_rCells.l0 k l0 l1 0) else (some false)) = some r := h; clear h
 by_cases c3 : (l0.length : Int) = (l1.length : Int)
 ·rw [if_pos c3] at H
  have c3b0 : ((l0.length : Int) == (l1.length : Int)) = true := beq_iff_eq.mpr c3; have c3b1 : ((l0.length : Int) != (l1.length : Int)) = false := bne_eq_false_iff_eq.mpr c3
  have c3b2 : (l0.length == l1.length) = true := by first | simpa using c3 | (simp at c3 ⊢; omega)
  clear c3; have H' := ak H; clear H
  go_enter Try.func33, Try.ntmps33
  go_wp2
  repeat (go_quiet (fail); try go_wp2)
  go_loopg [5] k (fun kq v5 w' => ∃ (x5_1 : Int), v5 = .int .i64 x5_1 ∧ Aside0 (laws_rCells.l0 kq l0 l1 x5_1 = some r) ∧ Aside0 (kq ≤ k) ∧ Drawn0 w w')
  case atStart => exact ⟨(0), sq, H', ⟨Nat.le_refl _⟩, by repeat (exact Drawn0.refl _)⟩
  case round =>
   clear H'; (try clear c3b0); (try clear c3b1); (try clear c3b2); obtain ⟨x5_1, rfl, HA, HK1, ⟨m1, rfl⟩⟩ := hrel
   cases gk with
   | zero => exact absurd HA.out (by simp [laws_rCells.l0])
   | succ k1 =>
    have H := HA.out; clear HA; simp only [laws_rCells.l0] at H
    by_cases c4 : x5_1 < (l0.length : Int)
    ·rw [if_pos c4] at H
     have c4b0 := decide_eq_true c4; clear c4
     by_cases c5 : 0 ≤ x5_1
     ·rw [if_pos c5] at H
      have c5b0 := decide_eq_true c5; clear c5
      by_cases c6 : x5_1 < (l1.length : Int)
      ·rw [if_pos c6] at H
       have c6b0 := decide_eq_true c6; clear c6
       by_cases c7 : (!(((rd_T49 l0 x5_1).f0) == ((rd_T49 l1 x5_1).f0)) || (!(((rd_T49 l0 x5_1).f1) == ((rd_T49 l1 x5_1).f1)))) = true
       ·rw [if_pos c7] at H
        have c7b0 : (!(((rd_T49 l0 x5_1).f0) == ((rd_T49 l1 x5_1).f0)) || (!(((rd_T49 l0 x5_1).f1) == ((rd_T49 l1 x5_1).f1)))) = true := c7; clear c7; obtain rfl := Option.some.inj H; have p420 : 0 ≤ (x5_1 : Int) := dq; have q420 : x5_1 < (l0.length : Int) := dq; obtain ⟨ad420, e420, hx420_0, hx420_1⟩ := at_T49 HR0.out x5_1 p420 q420; cases e420; replace p420 := eq_true p420; replace q420 := eq_true q420; have p421 : 0 ≤ (x5_1 : Int) := dq; have q421 : x5_1 < (l1.length : Int) := dq; obtain ⟨ad421, e421, hx421_0, hx421_1⟩ := at_T49 HR1.out x5_1 p421 q421; cases e421; replace p421 := eq_true p421; replace q421 := eq_true q421; go_wp2
        repeat (go_quiet (fail); try go_wp2)
        go_ret; exact ⟨sq, by repeat (first | exact Drawn0.refl _ | apply Drawn0.step)⟩
       ·rw [if_neg c7] at H
        have c7b0 : (!(((rd_T49 l0 x5_1).f0) == ((rd_T49 l1 x5_1).f0)) || (!(((rd_T49 l0 x5_1).f1) == ((rd_T49 l1 x5_1).f1)))) = false := by simpa using c7
        clear c7; have H' := ak H; clear H; have p420 : 0 ≤ (x5_1 : Int) := dq; have q420 : x5_1 < (l0.length : Int) := dq; obtain ⟨ad420, e420, hx420_0, hx420_1⟩ := at_T49 HR0.out x5_1 p420 q420; cases e420; replace p420 := eq_true p420; replace q420 := eq_true q420; have p421 : 0 ≤ (x5_1 : Int) := dq; have q421 : x5_1 < (l1.length : Int) := dq; obtain ⟨ad421, e421, hx421_0, hx421_1⟩ := at_T49 HR1.out x5_1 p421 q421; cases e421; replace p421 := eq_true p421; replace q421 := eq_true q421; go_wp2
        repeat (go_quiet (fail); try go_wp2)
        go_roundg k1
        case measure => have := HK1.out; omega
        case rel => exact ⟨(wrap64 (x5_1 + 1)), sq, H', ⟨by have := HK1.out; omega⟩, by repeat (first | exact Drawn0.refl _ | apply Drawn0.step)⟩
      ·rw [if_neg c6] at H
       exact absurd H (by simp)
     ·rw [if_neg c5] at H
      exact absurd H (by simp)
    ·rw [if_neg c4] at H
     have c4b0 := decide_eq_false c4; clear c4; obtain rfl := Option.some.inj H; go_wp2
     repeat (go_quiet (fail); try go_wp2)
     go_ret; exact ⟨sq, by repeat (first | exact Drawn0.refl _ | apply Drawn0.step)⟩
 ·rw [if_neg c3] at H
  have c3b0 : ((l0.length : Int) == (l1.length : Int)) = false := beq_eq_false_iff_ne.mpr c3; have c3b1 : ((l0.length : Int) != (l1.length : Int)) = true := bne_iff_ne.mpr c3
  have c3b2 : (l0.length == l1.length) = false := by first | simpa using c3 | (simp at c3 ⊢; omega)
  obtain rfl := Option.some.inj H
  go_enter Try.func33, Try.ntmps33
  go_wp2
  repeat (go_quiet (fail); try go_wp2)
  go_ret; exact ⟨sq, by repeat (exact Drawn0.refl _)⟩

/-! ### slices_Clone: function 70, by hand -/
def slices_Clone.f (l0 : List (S49)) : Option (List (S49)) := if l0.length < 8796093022208 then some l0 else none
theorem clone_info : (Try.prog.info? 49).map (fun i => (i.zero, i.size, i.bytes)) = some (some (.agg #[(.int .i64 0), (.int .i64 0)]), 2, 16) := by kernel_rfl
set_option maxHeartbeats 8000000 in
set_option maxRecDepth 100000 in
theorem slices_Clone.calls (A0 : Option Addr) (c0 : Nat) (l0 : List (S49)) (r : List (S49)) (w : World) (hr0 : Kd.C k49 w A0 l0.length l0) (hc0 : l0.length ≤ c0) (h : slices_Clone.f l0 = some r) :
  Calls Try.prog 70 #[.slice A0 l0.length c0] w fun e w' => ∃ v0_ : Value, e = .returned (v0_) ∧ Kd.R k49 49 w' w.heap.size (fun _ => True) v0_ r ∧ Below w.heap.size w w' := by
 unfold slices_Clone.f at h
 by_cases c2 : l0.length < 8796093022208
 case neg => rw [if_neg c2] at h; cases h
 rw [if_pos c2] at h; obtain rfl := Option.some.inj h; clear h; have HS := ak c2; clear c2; have HR0 := ak hr0; have HC0 := ak hc0; clear hr0 hc0; have HB := ak (Below.refl w.heap.size w)
 have q : ∀ (w : World) (a : Option Addr) (n c n' c' : Nat), (binOp .eql 22 (.slice a n c) (.slice none n' c')).run Try.prog w = .ok (.bool a.isNone) w := fun w a n c n' c' => Go.Lib.run_eql_slice_nil w _ _ a n c n' c' Try.underlying22
 cases A0 with
 | none =>
  have hn : l0 = [] := by
   cases l0 with
   | nil => rfl
   | cons x l => obtain ⟨_, _, h3⟩ := HR0.out; obtain ⟨ad, e, _⟩ := h3 (by simp); cases e
  subst hn; clear HR0
  go_enter Try.func70, Try.ntmps70
  go_wp2; go_ret; exact ⟨_, rfl, Kd.R_nil _ _ _ _ _, Below.refl _ _⟩
 | some ad =>
  obtain ⟨y1, hy1⟩ : ∃ y_ : List (S49), y_ = (([] : List (S49))) := ⟨_, rfl⟩; have Ny1 := ak hy1; clear hy1; obtain ⟨y2, hy2⟩ : ∃ y_ : List (S49), y_ = (y1 ++ l0) := ⟨_, rfl⟩; have Ny2 := ak hy2; clear hy2; have er := ak (show l0 = y2 by rw [Ny2.out, Ny1.out]; rfl)
  go_enter Try.func70, Try.ntmps70
  go_wp2_with (first
   | ((with_reducible refine gate_dst (N := 5) rfl ?_); refine Kd.R_lit k49 _ 49 ?hg (N := 5) ?hd (xs := ([] : List (S49))) (inner := []) (ok := fun _ => True) (okp := fun _ => True) ?hr ?hp (fun _ hk => hk) trivial (Below.refl _ _) (Nat.le_refl _) (by simp) ?_; (case hd => rfl); (case hg => rfl); (case hr => (go_simp; done)); (case hp => exact (Reps.none _ _)); intro v1 w8 ho9 hb hg_ hnew_; clear hg_ hnew_; (rw [← Ny1.out] at ho9); have n0_ := ak (Kd.R_lower ho9 (below_size bq)); have n1_ := ak (below_step bq hb); clear HB; have HO1 := n0_; have HB := n1_; clear n0_ n1_; clear hb ho9)
   | ((with_reducible refine gate_builtin (b := .append) (xs := #[.tmp 5, .tmp 6]) rfl ?_); at_builtin; refine Kd.R_append_rows k49 (w0 := w) w.heap.size rfl (.tmp 5) (.tmp 6) 22 49 (.agg #[(.int .i64 0), (.int .i64 0)]) 16 rfl Try.underlying22 clone_info rfl (by decide) (by decide) v1 y1 l0 _ _ _ (fun _ => True) (fun _ => False) rfl rfl ?aO ?aR (fun _ _ h => h) (fun _ h => h.elim) ?aF ?aB ?aS ?aL ?_; (case aR => exact cq (Kd.C_below HR0.out HB.out)); (case aB => exact bq); (case aF => exact (fun _ _ => trivial)); (case aO => exact (rq HO1)); (case aS => exact (below_size bq)); (case aL => have := HS.out; rw [Ny1.out]; simp; omega); intro v2 w11 ho hb hg hat; rw [← Ny2.out] at ho; have n0_ := ak (hb); have n1_ := ak (ho); clear HB; clear HO1; have HB := n0_; have HO2 := n1_; clear n0_ n1_; clear ho hb hg hat))
  go_ret; exact ⟨_, by first | rfl | (simp <;> rfl), by rw [er.out]; exact HO2.out, bq⟩

/-! ### impl_turnBody_1: function 112, by hand -/
def impl_turnBody_1.f (g a0_0 a0_1 : Int) : Option (Int × Int) := some (wrap64 (g * a0_1), wrap64 (wrap64 (-g) * a0_0))
set_option maxHeartbeats 2000000 in
set_option maxRecDepth 100000 in
theorem impl_turnBody_1.calls (g : Int) (pc : Addr) (a0_0 a0_1 r1 r2 : Int) (w : World) (hcap : w.cell? pc = some (.int .i64 g)) (h : impl_turnBody_1.f g a0_0 a0_1 = some (r1, r2)) :
  Calls Try.prog 112 #[.agg #[.int .i64 a0_0, .int .i64 a0_1], .pointer (some pc)] w fun e w' => e = .returned (.agg #[.int .i64 r1, .int .i64 r2]) ∧ Below w.heap.size w w' := by
 obtain ⟨rfl, rfl⟩ := Prod.mk.inj (Option.some.inj h); clear h; have hlt := World.block_lt_of_cell? w _ hcap
 have c2 : ((w.alloc (Obj.cells #[Value.int IntKind.i64 a0_0, Value.int IntKind.i64 a0_1] 49)).alloc (Obj.cells #[Value.int IntKind.i64 0, Value.int IntKind.i64 0] 49)).cell? pc = some (.int .i64 g) := by
  rw [← hcap]; exact Below.cell (below_alloc (below_alloc (Below.refl _ _) _) _) hlt
 go_enter Try.func112, Try.ntmps112
 go_wp2; refine bodyPost_ret (results_cell_row rfl _ _ (w.heap.size + 1) 49 #[.int .i64 (wrap64 (g * a0_1)), .int .i64 (wrap64 (wrap64 (-g) * a0_0))] (0, 0) _ rfl ?_ Try.underlying49 rfl (by kernel_rfl)) rfl ?_
 ·exact heap_alloc2_new w _ _
 ·exact ⟨rfl, by repeat (first | exact Below.refl _ _ | apply below_alloc)⟩

/-! ### impl_cellsBy_turnBody_1: function 102 -/
def impl_cellsBy_turnBody_1.l0 (g : Int) : Nat → List (S49) → List (S49) → Int → Int → Option ((List (S49)))
 | 0, _, _, _, _ => none
 | k + 1, x5, x9, x10, x11 => if x11 < x10 then (if 0 ≤ x11 then (if x11 < (x9.length : Int) then ((impl_turnBody_1.f g ((rd_T49 x9 x11).f0) ((rd_T49 x9 x11).f1)).bind fun bt427 => (if x5.length < 8796093022208 then (impl_cellsBy_turnBody_1.l0 g k (x5 ++ [(⟨bt427.1, bt427.2⟩ : S49)]) x9 x10 (wrap64 (x11 + 1))) else (none))) else (none)) else (none)) else ((impl_put.f k x5).bind fun t432 => (some t432))
def impl_cellsBy_turnBody_1.f (g : Int) (k : Nat) (l0 : List (S49)) : Option ((List (S49))) := impl_cellsBy_turnBody_1.l0 g k (([] : List (S49))) l0 (l0.length : Int) 0
theorem impl_cellsBy_turnBody_1.mono_l (g : Int) : ∀ k, (∀ y0 y1 y2 y3, LeO (impl_cellsBy_turnBody_1.l0 g k y0 y1 y2 y3) (impl_cellsBy_turnBody_1.l0 g (k + 1) y0 y1 y2 y3))
 | 0 => fun _ _ _ _ r h => by simp [impl_cellsBy_turnBody_1.l0] at h
 | k + 1 => by
  have ih0 := impl_cellsBy_turnBody_1.mono_l g k
  ·intro y0 y1 y2 y3
   unfold impl_cellsBy_turnBody_1.l0
   repeat' first
   | (with_reducible exact ih0 _ _ _ _)
   | (with_reducible exact impl_put.mono _ _)
   | (with_reducible exact LeO.refl _)
   | (with_reducible exact LeO.none _)
   | (with_reducible refine LeO.ite ?_ ?_)
   | (with_reducible refine LeO.bind ?_ (fun _ => ?_))
theorem impl_cellsBy_turnBody_1.mono (g : Int) : ∀ a0 k, LeO (impl_cellsBy_turnBody_1.f g k a0) (impl_cellsBy_turnBody_1.f g (k + 1) a0) := by
 intro a0 k; have ih0 := impl_cellsBy_turnBody_1.mono_l g k
 unfold impl_cellsBy_turnBody_1.f
 repeat' first
   | (with_reducible exact ih0 _ _ _ _)
   | (with_reducible exact impl_put.mono _ _)
   | (with_reducible exact LeO.refl _)
   | (with_reducible exact LeO.none _)
   | (with_reducible refine LeO.ite ?_ ?_)
   | (with_reducible refine LeO.bind ?_ (fun _ => ?_))
set_option maxHeartbeats 8000000 in
set_option maxRecDepth 100000 in
theorem impl_cellsBy_turnBody_1.calls (g : Int) (pc : Addr) (k : Nat) (A0 : Option Addr) (c0 : Nat) (l0 : List (S49)) (r : List (S49)) (w : World) (hr0 : Kd.C k49 w A0 l0.length l0) (hc0 : l0.length ≤ c0) (hcap : w.cell? pc = some (.int .i64 g)) (h : impl_cellsBy_turnBody_1.f g k l0 = some r) :
  Calls Try.prog 102 #[.slice A0 l0.length c0, .func (.func 112) #[] #[.pointer (some pc)]] w fun e w' => ∃ v0_ : Value, e = .returned (v0_) ∧ Kd.R k49 49 w' w.heap.size (fun _ => True) v0_ r ∧ Below w.heap.size w w' := by
 have hu49 := Try.underlying49; have HR0 := ak hr0; have HC0 := ak hc0; clear hr0 hc0; have HB := ak (Below.refl w.heap.size w); have H : (impl_cellsBy_turnBody_1.l0 g k (([] : List (S49))) l0 (l0.length : Int) 0) = some r := h; clear h; obtain ⟨y422, hy422⟩ : ∃ y_ : List (S49), y_ = (([] : List (S49))) := ⟨_, rfl⟩
 replace H : (impl_cellsBy_turnBody_1.l0 g k y422 l0 (l0.length : Int) 0) = some r := by first | (rw [hy422]; with_reducible exact H) | (have H2_ := (Option.bind_some _ _).symm.trans H; rw [hy422]; with_reducible exact H2_) | (have H2_ := (Option.bind_some _ _).symm.trans H; with_reducible exact H2_) | with_reducible exact H | (rw [hy422]; exact H) | exact H
 have Ny422 := ak hy422; clear hy422; have H' := ak H; clear H
 go_enter Try.func102, Try.ntmps102
 go_wp2_with (((with_reducible refine gate_dst (N := 8) rfl ?_); refine Kd.R_lit k49 _ 49 ?hg (N := 8) ?hd (xs := ([] : List (S49))) (inner := []) (ok := fun _ => True) (okp := fun _ => True) ?hr ?hp (fun _ hk => hk) trivial (Below.refl _ _) (Nat.le_refl _) (by simp) ?_; (case hd => rfl); (case hg => rfl); (case hr => (go_simp; done)); (case hp => exact (Reps.none _ _)); intro v423 w2 ho3 hb hg_ hnew_; clear hg_ hnew_; (rw [← Ny422.out] at ho3); have n0_ := ak (Kd.R_lower ho3 (below_size bq)); have n1_ := ak (below_step bq hb); clear HB; have HO424 := n0_; have HB := n1_; clear n0_ n1_; clear hb ho3))
 go_loopg [5, 11] k (fun kq v5 v11 w' => ∃ (x5_1 : List (S49)) (x11_1 : Int), v11 = .int .i64 x11_1 ∧ Aside0 (impl_cellsBy_turnBody_1.l0 g kq x5_1 l0 (l0.length : Int) x11_1 = some r) ∧ Aside0 (kq ≤ k) ∧ Aside0 (Kd.R k49 49 w' w.heap.size (fun _ => True) v5 x5_1) ∧ Aside0 (Below w.heap.size w w'))
 case atStart => exact ⟨(y422), (0), sq, H', ⟨Nat.le_refl _⟩, ⟨rq HO424⟩, ⟨bq⟩⟩
 case round =>
  clear H'; obtain ⟨x5_1, x11_1, rfl, HA, HK1, HO_5, HB⟩ := hrel
  cases gk with
  | zero => exact absurd HA.out (by simp [impl_cellsBy_turnBody_1.l0])
  | succ k1 =>
   have H := HA.out; clear HA; simp only [impl_cellsBy_turnBody_1.l0] at H
   by_cases c4 : x11_1 < (l0.length : Int)
   ·rw [if_pos c4] at H
    have c4b0 := decide_eq_true c4; clear c4
    by_cases c5 : 0 ≤ x11_1
    ·rw [if_pos c5] at H
     have c5b0 := decide_eq_true c5; clear c5
     by_cases c6 : x11_1 < (l0.length : Int)
     ·rw [if_pos c6] at H
      have c6b0 := decide_eq_true c6; clear c6; obtain ⟨⟨t427, t428⟩, A70, H⟩ := Option.bind_eq_some_iff.mp H
      (try dsimp only at H)
      have A7 := ak A70; clear A70
      by_cases c8 : x5_1.length < 8796093022208
      ·rw [if_pos c8] at H
       have LMc8 := ak c8; clear c8; obtain ⟨y429, hy429⟩ : ∃ y_ : List (S49), y_ = (x5_1 ++ [(⟨t427, t428⟩ : S49)]) := ⟨_, rfl⟩
       replace H : (impl_cellsBy_turnBody_1.l0 g k1 y429 l0 (l0.length : Int) (wrap64 (x11_1 + 1))) = some r := by first | (rw [hy429]; with_reducible exact H) | (have H2_ := (Option.bind_some _ _).symm.trans H; rw [hy429]; with_reducible exact H2_) | (have H2_ := (Option.bind_some _ _).symm.trans H; with_reducible exact H2_) | with_reducible exact H | (rw [hy429]; exact H) | exact H
       have Ny429 := ak hy429; clear hy429; have H' := ak H; clear H; have p425 : 0 ≤ (x11_1 : Int) := dq; have q425 : x11_1 < (l0.length : Int) := dq; obtain ⟨ad425, e425, hx425_0, hx425_1⟩ := at_T49 HR0.out x11_1 p425 q425; cases e425; replace hx425_0 := hb_ HB hx425_0; replace hx425_1 := hb_ HB hx425_1; replace p425 := eq_true p425; replace q425 := eq_true q425
       go_wp2_with (first | ((with_reducible refine gate_dst (N := 7) rfl ?_); refine box_event ?hg (N := 7) ?hd (cs := #[.int .i64 0, .int .i64 0]) (t := 49) ?hr ?_; (case hd => rfl); (case hg => rfl); (case hr => (go_simp; done)); intro gb426 hg w9 hbox hb; have n0_ := ak (Kd.R_below (Kd.R_elderB (rq HO_5) gb426 (Nat.le_of_eq hg.symm)) hb); have n1_ := ak (below_step bq hb); have n2_ := ak (hbox); have n3_ := ak ((by rw [hg]; exact (below_size bq) : w.heap.size ≤ gb426)); have n4_ := ak ((by rw [hg]; exact (below_size bq) : w.heap.size ≤ gb426)); clear HO_5; clear HB; have HO_5 := n0_; have HB := n1_; have BK426 := n2_; have GW426 := n3_; have GE426 := n4_; clear n0_ n1_ n2_ n3_ n4_; clear hb hbox hg; have hcz10_0 : w9.cell? ⟨gb426, 0, none⟩ = some (.int .i64 0) := (blk_cell BK426.out 0).trans rfl; have hcz10_1 : w9.cell? ⟨gb426, 1, none⟩ = some (.int .i64 0) := (blk_cell BK426.out 1).trans rfl; have hfz10_0 := blk_frozen BK426.out 0; have hfz10_1 := blk_frozen BK426.out 1) | (go_at_call 112; (with_reducible refine (impl_turnBody_1.calls g pc ((rd_T49 l0 x11_1).f0) ((rd_T49 l0 x11_1).f1) t427 t428 _ (by exact cap_at bs hcap) A7.out).mono ?_); rintro e w11 ⟨rfl, hb⟩; have n0_ := ak (Kd.R_below (by exact (Kd.R_mono (Kd.R_far (p := ⟨gb426, 1, none⟩) (Kd.R_far (p := ⟨gb426, 0, none⟩) (Kd.R_mono HO_5.out (fun k_ hk => (⟨hk, hk.2⟩ : _ ∧ k_ ≠ gb426))) (fun _ hk => hk.2) (.int .i64 ((rd_T49 l0 x11_1).f0))) (fun _ hk => hk.2) (.int .i64 ((rd_T49 l0 x11_1).f1))) (fun _ h_ => h_.1))) hb); have n1_ := ak (blk_below (g := gb426) (o := .cells #[.int .i64 ((rd_T49 l0 x11_1).f0), .int .i64 ((rd_T49 l0 x11_1).f1)] 49 (0, 0)) (by refine blk_put (cs := #[.int .i64 ((rd_T49 l0 x11_1).f0), .int .i64 0]) ?_ 1 _ rfl; refine blk_put (cs := #[.int .i64 0, .int .i64 0]) ?_ 0 _ rfl; exact BK426.out) hb); have n2_ := ak (below_step bs hb); clear HO_5; clear BK426; clear HB; have HO_5 := n0_; have BK426 := n1_; have HB := n2_; clear n0_ n1_ n2_; (try clear hb)) | ((with_reducible refine gate_builtin (b := .append) (xs := #[.tmp 15, .tmp 19]) rfl ?_); at_builtin; refine Kd.R_append k49 (w0 := w) w.heap.size rfl (.tmp 15) (.tmp 19) 22 49 (.agg #[(.int .i64 0), (.int .i64 0)]) 16 rfl Try.underlying22 info49 rfl (by decide) (by omega) u5 x5_1 (⟨t427, t428⟩ : S49) [.int .i64 t427, .int .i64 t428] (fun k_ => k_ ≠ gb426) (fun _ => False) rfl rfl ?aP (fun _ hk => hk.elim) ?aF ?aO ?aB ?aS ?aL ?_; (case aP => exact k49_mkM _ _ _ (⟨t427, t428⟩ : S49)); (case aB => exact bs); (case aF => exact (fun k_ hk => Kd.freshB (g := gb426) (o := .cells #[.int .i64 ((rd_T49 l0 x11_1).f0), .int .i64 ((rd_T49 l0 x11_1).f1)] 49 (0, 0)) (uq BK426) k_ hk)); (case aO => exact (by exact Kd.R_mono HO_5.out (fun _ hk => hk.2))); (case aS => exact (below_size bs)); (case aL => have := LMc8.out; omega); intro v430 w12 ho hb hg hat; rw [← Ny429.out] at ho; have n0_ := ak (blk_grown (g := gb426) (o := .cells #[.int .i64 ((rd_T49 l0 x11_1).f0), .int .i64 ((rd_T49 l0 x11_1).f1)] 49 (0, 0)) (uq BK426) hg (Kd.R_away HO_5.out (fun _ hk => hk.2))); have n1_ := ak (hb); have n2_ := ak (ho); clear BK426; clear HB; clear HO_5; have BK426 := n0_; have HB := n1_; have HO431 := n2_; clear n0_ n1_ n2_; clear ho hb hg hat))
       go_roundg k1
       case measure => have := HK1.out; omega
       case rel => exact ⟨(y429), (wrap64 (x11_1 + 1)), sq, H', ⟨by have := HK1.out; omega⟩, ⟨by exact Kd.R_mono HO431.out (fun _ hk => trivial)⟩, ⟨bs⟩⟩
      ·rw [if_neg c8] at H
       exact absurd H (by simp)
     ·rw [if_neg c6] at H
      exact absurd H (by simp)
    ·rw [if_neg c5] at H
     exact absurd H (by simp)
   ·rw [if_neg c4] at H
    have c4b0 := decide_eq_false c4; clear c4; obtain ⟨t432, A130, H⟩ := Option.bind_eq_some_iff.mp H
    have A13 := ak A130; clear A130; obtain rfl := Option.some.inj H; obtain ⟨Ao14, co14, eo14⟩ := Kd.R_slice HO_5.out; subst eo14
    go_wp2_with (((with_reducible refine gate_callee (f := 72) rfl ?_); refine goesL_ (some 23) rfl rfl Try.func72 (by kernel_rfl) rfl #[.slice Ao14 x5_1.length co14] rfl aq ?_; (with_reducible refine (impl_put.calls k1 _ _ x5_1 t432 _ ?side1 ?side2 A13.out).mono ?_); (case side1 => exact cq (Kd.R_reads' HO_5.out).2.2); (case side2 => exact (Kd.R_reads' HO_5.out).2.1); rintro e w15 ⟨v433, rfl, ho0, hb⟩; refine ⟨_, rfl, ?_⟩; have n0_ := ak (Kd.R_elder' (rq HO_5) (Kd.R_base ho0) hb); have n1_ := ak (Kd.R_lower (Kd.R_new' ho0 (Kd.R_lt (rq HO_5))) (below_size bq)); have n2_ := ak (below_step bq hb); clear HO_5; clear HB; have HO_5 := n0_; have HO434 := n1_; have HB := n2_; clear n0_ n1_ n2_; (try clear hb); (try clear ho0)))
    go_ret; exact ⟨_, eq_, by exact Kd.R_mono HO434.out (fun _ hk => trivial), bq⟩

/-! ### impl_turnBody: function 77, by hand -/
def impl_turnBody.f (k : Nat) (l0 : List (S49)) (a1 : Int) : Option (List (S49)) := impl_cellsBy_turnBody_1.f a1 k l0
theorem impl_turnBody.mono : ∀ a0 a1 k, LeO (impl_turnBody.f k a0 a1) (impl_turnBody.f (k + 1) a0 a1) := fun a0 a1 k => impl_cellsBy_turnBody_1.mono a1 a0 k
set_option maxHeartbeats 2000000 in
set_option maxRecDepth 100000 in
theorem impl_turnBody.calls (k : Nat) (A0 : Option Addr) (c0 : Nat) (l0 : List (S49)) (a1 : Int) (r : List (S49)) (w : World) (hr0 : Kd.C k49 w A0 l0.length l0) (hc0 : l0.length ≤ c0) (h : impl_turnBody.f k l0 a1 = some r) :
 Calls Try.prog 77 #[.slice A0 l0.length c0, .int .i64 a1] w fun e w' => ∃ v0_ : Value, e = .returned (v0_) ∧ Kd.R k49 49 w' w.heap.size (fun _ => True) v0_ r ∧ Below w.heap.size w w' := by
 have hB1 : Below w.heap.size w (w.alloc (Obj.cells #[Value.int IntKind.i64 a1] 3)) := below_alloc (Below.refl _ _) _; have g0 : (w.alloc (Obj.cells #[Value.int IntKind.i64 a1] 3)).heap[w.heap.size]? = some (Obj.cells #[Value.int IntKind.i64 a1] 3) := heap_alloc_new w _
 have hcap : (w.alloc (Obj.cells #[Value.int IntKind.i64 a1] 3)).cell? ⟨w.heap.size, 0, none⟩ = some (.int .i64 a1) := by
  simp only [World.cell?, g0]
  rfl
 have hcall := impl_cellsBy_turnBody_1.calls a1 ⟨w.heap.size, 0, none⟩ k A0 c0 l0 r (w.alloc (Obj.cells #[Value.int IntKind.i64 a1] 3)) (Kd.C_below hr0 hB1) hc0 hcap h; clear h
 go_enter Try.func77, Try.ntmps77
 go_wp2_with ((go_at_call 102; refine hcall.mono ?_; rintro e w' ⟨v0_, rfl, hR, hb⟩))
 go_ret; exact ⟨v0_, rfl, Kd.R_lower hR hB1.size, below_step hB1 hb⟩

end Go.Proofs.Ytckhmeadflafaaa.XFb
