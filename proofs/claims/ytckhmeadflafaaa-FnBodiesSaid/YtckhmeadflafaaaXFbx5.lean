/- Functions of the program as plain Lean functions, each with the proof that the machine's call does what it says: written by a program of this session out of the translation. -/
import Derived.Test.YtckhmeadflafaaaXFbx0
import Derived.Test.YtckhmeadflafaaaXFbx4
namespace Go.Proofs.Ytckhmeadflafaaa.XFb
open Go.RowKit Go.Proofs.YtckhmeadflafaaaW.PrintWords Go.Proofs.YtckhmeadflafaaaW.PrintLast Go.Proofs.YtckhmeadflafaaaW.PrintMore
attribute [local go_sem] max2_int min2_int max_two min_two max_three min_three max_four min_four   -- for this text's walks alone
set_option linter.unusedVariables false
set_option linter.unusedSimpArgs false

/-! ### spec_l8Put: function 91 -/
def spec_l8Put.l0 : Nat → List (S49) → Int → Int → Int → Option ((List (S49)))
 | 0, _, _, _, _ => none
 | k + 1, x0, x5, x129000, x129001 => if x5 < (x0.length : Int) then (if 0 ≤ x5 then ((spec_l8Before.f ((rd_T49 x0 x5).f0) ((rd_T49 x0 x5).f1) x129000 x129001).bind fun t130 => (if t130 = true then (spec_l8Put.l0 k x0 (wrap64 (x5 + 1)) x129000 x129001) else ((some (([] : List (S49)) : List (S49))).bind fun y131 => (if x5 ≤ (x0.length : Int) then ((some (x0.take (x5 : Int).toNat : List (S49))).bind fun y134 => (if y131.length + y134.length < 8796093022208 then ((some (y131 ++ y134 : List (S49))).bind fun y138 => ((some (([(⟨x129000, x129001⟩ : S49)] : List (S49)) : List (S49))).bind fun y141 => (if y138.length + y141.length < 8796093022208 then ((some (y138 ++ y141 : List (S49))).bind fun y144 => ((some (x0.drop (x5 : Int).toNat : List (S49))).bind fun y147 => (if y144.length + y147.length < 8796093022208 then (some (y144 ++ y147)) else (none)))) else (none)))) else (none))) else (none))))) else (none)) else ((some (([] : List (S49)) : List (S49))).bind fun y154 => (if 0 ≤ x5 then (if x5 ≤ (x0.length : Int) then ((some (x0.take (x5 : Int).toNat : List (S49))).bind fun y157 => (if y154.length + y157.length < 8796093022208 then ((some (y154 ++ y157 : List (S49))).bind fun y161 => ((some (([(⟨x129000, x129001⟩ : S49)] : List (S49)) : List (S49))).bind fun y164 => (if y161.length + y164.length < 8796093022208 then ((some (y161 ++ y164 : List (S49))).bind fun y167 => ((some (x0.drop (x5 : Int).toNat : List (S49))).bind fun y170 => (if y167.length + y170.length < 8796093022208 then (some (y167 ++ y170)) else (none)))) else (none)))) else (none))) else (none)) else (none)))
def spec_l8Put.f (k : Nat) (l0 : List (S49)) (a1_0 : Int) (a1_1 : Int) : Option ((List (S49))) := spec_l8Put.l0 k l0 0 a1_0 a1_1
theorem spec_l8Put.mono_l : ∀ k, (∀ y0 y1 y2 y3, LeO (spec_l8Put.l0 k y0 y1 y2 y3) (spec_l8Put.l0 (k + 1) y0 y1 y2 y3))
 | 0 => fun _ _ _ _ r h => by simp [spec_l8Put.l0] at h
 | k + 1 => by
  have ih0 := spec_l8Put.mono_l k
  ·intro y0 y1 y2 y3
   unfold spec_l8Put.l0
   repeat' first
   | (with_reducible exact ih0 _ _ _ _)
   | (with_reducible exact LeO.refl _)
   | (with_reducible exact LeO.none _)
   | (with_reducible refine LeO.ite ?_ ?_)
   | (with_reducible refine LeO.bind ?_ (fun _ => ?_))
theorem spec_l8Put.mono : ∀ a0 a1 a2 k, LeO (spec_l8Put.f k a0 a1 a2) (spec_l8Put.f (k + 1) a0 a1 a2) := by
 intro a0 a1 a2 k; have ih0 := spec_l8Put.mono_l k
 unfold spec_l8Put.f
 repeat' first
   | (with_reducible exact ih0 _ _ _ _)
   | (with_reducible exact LeO.refl _)
   | (with_reducible exact LeO.none _)
   | (with_reducible refine LeO.ite ?_ ?_)
   | (with_reducible refine LeO.bind ?_ (fun _ => ?_))
def spec_l8Put.T2 : Bool × List (List Nat × List Nat) := (true, [([], []), ([], []), ([1], [1]), ([0, 2], [0, 2]), ([3], [3]), ([4], [4]), ([4], [4]), ([5, 6, 4], [4, 5, 6]), ([7, 4], [4, 7]), ([4], [4]), ([8, 9, 4, 4], [4, 8, 9]), ([4, 10], [4, 10])])
def spec_l8Put.B2 : List Nat := [0, 0, 2, 7, 15, 31, 31, 127, 255, 31, 1023, 2047]
theorem spec_l8Put.tab2 : rtab .any (opsOf Try.f91 2) = spec_l8Put.T2 := by kernel_rfl
theorem spec_l8Put.bits2 : waitsOk spec_l8Put.T2.2 spec_l8Put.B2 = true := by kernel_rfl
def spec_l8Put.T4 : Bool × List (List Nat × List Nat) := (true, [([], []), ([], []), ([], []), ([1, 2], [1, 2]), ([0, 3], [0, 3]), ([], []), ([5], [5]), ([4, 6, 4], [4, 6]), ([], []), ([], []), ([8, 9], [8, 9]), ([7, 10, 7], [7, 10]), ([11, 11, 0, 1, 2, 3, 4, 5, 6, 7, 8, 9, 10, 11], [11])])
def spec_l8Put.B4 : List Nat := [0, 0, 0, 6, 15, 0, 32, 127, 0, 0, 768, 2047, 4095]
theorem spec_l8Put.tab4 : rtab .any (opsOf Try.f91 4) = spec_l8Put.T4 := by kernel_rfl
theorem spec_l8Put.bits4 : waitsOk spec_l8Put.T4.2 spec_l8Put.B4 = true := by kernel_rfl
set_option maxHeartbeats 8000000 in
set_option maxRecDepth 100000 in
theorem spec_l8Put.calls (k : Nat) (A0 : Option Addr) (c0 : Nat) (l0 : List (S49)) (a1_0 : Int) (a1_1 : Int) (r : List (S49)) (w : World) (hr0 : Kd.C k49 w A0 l0.length l0) (hc0 : l0.length ≤ c0) (h : spec_l8Put.f k l0 a1_0 a1_1 = some r) :
  Calls Try.prog 91 #[.slice A0 l0.length c0, .agg #[.int .i64 a1_0, .int .i64 a1_1]] w fun e w' => ∃ v0_ : Value, e = .returned (v0_) ∧ Kd.R k49 49 w' w.heap.size (fun _ => True) v0_ r ∧ Below w.heap.size w w' := by
 have hu49 := Try.underlying49; have HR0 := ak hr0; have HC0 := ak hc0; clear hr0 hc0; have HB := ak (Below.refl w.heap.size w); have H : (spec_l8Put.l0 k l0 0 a1_0 a1_1) = some r := h; clear h; have H' := ak H; clear H
 go_enter Try.func91, Try.ntmps91
 go_wp2_with (((with_reducible refine gate_dst (N := 3) rfl ?_); refine box_event ?hg (N := 3) ?hd (cs := #[.int .i64 a1_0, .int .i64 a1_1]) (t := 49) ?hr ?_; (case hd => rfl); (case hg => rfl); (case hr => (go_simp; done)); intro gb128 hg w3 hbox hb; have n0_ := ak (below_step bq hb); have n1_ := ak (hbox); have n2_ := ak ((by rw [hg]; exact (below_size bq) : w.heap.size ≤ gb128)); have n3_ := ak ((by rw [hg]; exact (below_size bq) : w.heap.size ≤ gb128)); clear HB; have HB := n0_; have BK128 := n1_; have GW128 := n2_; have GE128 := n3_; clear n0_ n1_ n2_ n3_; clear hb hbox hg))
 go_loopg [5] k (fun kq v5 w' => ∃ (x5_1 : Int), v5 = .int .i64 x5_1 ∧ Aside0 (spec_l8Put.l0 kq l0 x5_1 a1_0 a1_1 = some r) ∧ Aside0 (kq ≤ k) ∧ Aside0 (w'.heap[gb128]? = some (.cells #[.int .i64 a1_0, .int .i64 a1_1] 49 (0, 0))) ∧ Aside0 (Below w.heap.size w w'))
 case atStart => exact ⟨(0), sq, H', ⟨Nat.le_refl _⟩, ⟨by exact BK128.out⟩, ⟨bs⟩⟩
 case round =>
  clear H'; obtain ⟨x5_1, rfl, HA, HK1, BK128, HB⟩ := hrel
  cases gk with
  | zero => exact absurd HA.out (by simp [spec_l8Put.l0])
  | succ k1 =>
   have H := HA.out; clear HA; simp only [spec_l8Put.l0] at H
   by_cases c4 : x5_1 < (l0.length : Int)
   ·rw [if_pos c4] at H
    have c4b0 := decide_eq_true c4; clear c4
    by_cases c5 : 0 ≤ x5_1
    ·rw [if_pos c5] at H
     have c5b0 := decide_eq_true c5; clear c5; obtain ⟨t130, A60, H⟩ := Option.bind_eq_some_iff.mp H
     have A6 := ak A60; clear A60
     by_cases c7 : t130 = true
     ·subst c7
      rw [if_pos rfl] at H; have H' := ak H; clear H; (try go_wp2); have n0_ := ak (blk_drew BK128.out); have n1_ := ak (below_drew1 HB.out); clear BK128; clear HB; have BK128 := n0_; have HB := n1_; clear n0_ n1_; have p129 : 0 ≤ (x5_1 : Int) := dq; have q129 : x5_1 < (l0.length : Int) := dq; obtain ⟨ad129, e129, hx129_0, hx129_1⟩ := at_T49 HR0.out x5_1 p129 q129; have hw129_1 := hx129_1; have hw129_0 := hx129_0; cases e129; replace hx129_0 := hb_ HB hx129_0; replace hx129_1 := hb_ HB hx129_1; replace p129 := eq_true p129; replace q129 := eq_true q129; refine start_ (n := 12) (S := fun w' => w'.cell? ⟨gb128, 0, none⟩ = some (.int .i64 a1_0) ∧ w'.cell? ⟨gb128, 1, none⟩ = some (.int .i64 a1_1) ∧ w'.cell? (ad129.add ((x5_1).toNat * 2)) = some (.int .i64 ((rd_T49 l0 x5_1).f0)) ∧ w'.cell? ⟨(ad129.add ((x5_1).toNat * 2)).block, (ad129.add ((x5_1).toNat * 2)).off + 1, none⟩ = some (.int .i64 ((rd_T49 l0 x5_1).f1))) (ds := []) #[Z,Z,Z,Z,Z,Z,Z,Z,Z,Z,Z,Z] (by kernel_rfl) rfl rfl ⟨(blk_cell BK128.out 0).trans rfl, (blk_cell BK128.out 1).trans rfl, ((hb_ HB hw129_0).trans rfl), ((hb_ HB hw129_1).trans rfl)⟩ (fun hHeld => ?_); refine with_tabW spec_l8Put.tab2 spec_l8Put.bits2 (fun HT_ HW_ => ?_)
      generalize wr.drew = w8 at BK128 HB hx129_0 hx129_1 hHeld ⊢
      refine pq_ (i := 0) (N := some 6) #[Y,Z,Z,Z,Z,Z,Z,Z,Z,Z,Z,Z] HT_ ?_; refine pq_ (i := 1) (N := some 7) #[Y,Y,Z,Z,Z,Z,Z,Z,Z,Z,Z,Z] HT_ ?_; refine pq_ (i := 2) (N := some 8) #[Y,Y,Y,Z,Z,Z,Z,Z,Z,Z,Z,Z] HT_ ?_; refine pq_ (i := 3) (N := some 9) #[Y,Y,Y,Y,Z,Z,Z,Z,Z,Z,Z,Z] HT_ ?_; refine pq_ (i := 4) (N := some 10) #[Y,Y,Y,Y,Y,Z,Z,Z,Z,Z,Z,Z] HT_ ?_; refine pq_ (i := 5) (N := some 11) #[Y,Y,Y,Y,Y,Y,Z,Z,Z,Z,Z,Z] HT_ ?_; refine pq_ (i := 6) (N := some 12) #[Y,Y,Y,Y,Y,Y,Y,Z,Z,Z,Z,Z] HT_ ?_; refine pq_ (i := 7) (N := some 13) #[Y,Y,Y,Y,Y,Y,Y,Y,Z,Z,Z,Z] HT_ ?_; refine tk_ (i := 8) (N := some 14) #[Y,Y,Y,Y,Y,Y,Y,Y,Y,Z,Z,Z] HT_ HW_ hHeld ?_; refine tk_ (i := 9) (N := some 15) #[Y,Y,Y,Y,Y,Y,Y,Y,Y,Y,Z,Z] HT_ HW_ hHeld ?_; refine one_ (i := 10) (N := some 16) #[Y,Y,Y,Y,Y,Y,Y,Y,Y,Y,Y,Z] rfl rfl (one_of HT_.out (by kernel_rfl)) (by decide) (fun K hK => ?_); refine goes_ Try.func106 (by kernel_rfl) rfl #[.agg #[.int .i64 ((rd_T49 l0 x5_1).f0), .int .i64 ((rd_T49 l0 x5_1).f1)], .agg #[.int .i64 a1_0, .int .i64 a1_1]] (by rfl) rfl rfl aq ?_
      with_reducible refine (spec_l8Before.calls ((rd_T49 l0 x5_1).f0) ((rd_T49 l0 x5_1).f1) a1_0 a1_1 true _ A6.out).mono ?_
      rintro e w9 ⟨rfl, hb⟩
      refine ⟨_, rfl, ?_⟩; have n0_ := ak (blk_below (g := gb128) (o := .cells #[.int .i64 a1_0, .int .i64 a1_1] 49 (0, 0)) (uq BK128) hb); have n1_ := ak (below_step bs hb); clear BK128; clear HB; have BK128 := n0_; have HB := n1_; clear n0_ n1_
      (try clear hb)
      refine hK.out _ _ ⟨(blk_cell BK128.out 0).trans rfl, (blk_cell BK128.out 1).trans rfl, ((hb_ HB hw129_0).trans rfl), ((hb_ HB hw129_1).trans rfl)⟩ (fun hHeld => ?_); clear hK K; refine norm_ (a' := ?_) ?_ ?_; rotate_left
      ·show Act.put _ (some 16) _ = _
       simp only [Act.put, sA, sZ, sS, i64_w, i32_w]
       rfl
      refine pq_ (i := 11) (N := some 17) #[Y,Y,Y,Y,Y,Y,Y,Y,Y,Y,Y,Y] HT_ ?_; refine done_ (done_of HT_.out (by kernel_rfl)) ?_; (try go_wp2); go_roundg k1
      case measure => have := HK1.out; omega
      case rel => exact ⟨(wrap64 (x5_1 + 1)), sq, H', ⟨by have := HK1.out; omega⟩, ⟨by exact BK128.out⟩, ⟨bs⟩⟩
     ·replace c7 := Bool.eq_false_iff.mpr c7
      subst c7; rw [if_neg (show ¬ (false = true) by decide)] at H; obtain ⟨y131, hy131⟩ : ∃ y_ : List (S49), y_ = (([] : List (S49))) := ⟨_, rfl⟩
      replace H : (if x5_1 ≤ (l0.length : Int) then ((some (l0.take (x5_1 : Int).toNat : List (S49))).bind fun y134 => (if y131.length + y134.length < 8796093022208 then ((some (y131 ++ y134 : List (S49))).bind fun y138 => ((some (([(⟨a1_0, a1_1⟩ : S49)] : List (S49)) : List (S49))).bind fun y141 => (if y138.length + y141.length < 8796093022208 then ((some (y138 ++ y141 : List (S49))).bind fun y144 => ((some (l0.drop (x5_1 : Int).toNat : List (S49))).bind fun y147 => (if y144.length + y147.length < 8796093022208 then (some (y144 ++ y147)) else (none)))) else (none)))) else (none))) else (none)) = some r := by first | (rw [hy131]; with_reducible exact H) | (have H2_ := (Option.bind_some _ _).symm.trans H; rw [hy131]; with_reducible exact H2_) | (have H2_ := (Option.bind_some _ _).symm.trans H; with_reducible exact H2_) | with_reducible exact H | (rw [hy131]; exact H) | exact H
      have Ny131 := ak hy131; clear hy131; have c10b0 := eq_true (dq : 0 ≤ x5_1)
      by_cases c11 : x5_1 ≤ (l0.length : Int)
      ·rw [if_pos c11] at H
       have c11b0 := eq_true c11; have c11b1 := decide_eq_true c11; clear c11; obtain ⟨y134, hy134⟩ : ∃ y_ : List (S49), y_ = (l0.take (x5_1 : Int).toNat) := ⟨_, rfl⟩
       replace H : (if y131.length + y134.length < 8796093022208 then ((some (y131 ++ y134 : List (S49))).bind fun y138 => ((some (([(⟨a1_0, a1_1⟩ : S49)] : List (S49)) : List (S49))).bind fun y141 => (if y138.length + y141.length < 8796093022208 then ((some (y138 ++ y141 : List (S49))).bind fun y144 => ((some (l0.drop (x5_1 : Int).toNat : List (S49))).bind fun y147 => (if y144.length + y147.length < 8796093022208 then (some (y144 ++ y147)) else (none)))) else (none)))) else (none)) = some r := by first | (rw [hy134]; with_reducible exact H) | (have H2_ := (Option.bind_some _ _).symm.trans H; rw [hy134]; with_reducible exact H2_) | (have H2_ := (Option.bind_some _ _).symm.trans H; with_reducible exact H2_) | with_reducible exact H | (rw [hy134]; exact H) | exact H
       have Ny134 := ak hy134; clear hy134
       by_cases c12 : y131.length + y134.length < 8796093022208
       ·rw [if_pos c12] at H
        have LMc12 := ak c12; clear c12; obtain ⟨y138, hy138⟩ : ∃ y_ : List (S49), y_ = (y131 ++ y134) := ⟨_, rfl⟩
        replace H : ((some (([(⟨a1_0, a1_1⟩ : S49)] : List (S49)) : List (S49))).bind fun y141 => (if y138.length + y141.length < 8796093022208 then ((some (y138 ++ y141 : List (S49))).bind fun y144 => ((some (l0.drop (x5_1 : Int).toNat : List (S49))).bind fun y147 => (if y144.length + y147.length < 8796093022208 then (some (y144 ++ y147)) else (none)))) else (none))) = some r := by first | (rw [hy138]; with_reducible exact H) | (have H2_ := (Option.bind_some _ _).symm.trans H; rw [hy138]; with_reducible exact H2_) | (have H2_ := (Option.bind_some _ _).symm.trans H; with_reducible exact H2_) | with_reducible exact H | (rw [hy138]; exact H) | exact H
        have Ny138 := ak hy138; clear hy138; obtain ⟨y141, hy141⟩ : ∃ y_ : List (S49), y_ = (([(⟨a1_0, a1_1⟩ : S49)] : List (S49))) := ⟨_, rfl⟩
        replace H : (if y138.length + y141.length < 8796093022208 then ((some (y138 ++ y141 : List (S49))).bind fun y144 => ((some (l0.drop (x5_1 : Int).toNat : List (S49))).bind fun y147 => (if y144.length + y147.length < 8796093022208 then (some (y144 ++ y147)) else (none)))) else (none)) = some r := by first | (rw [hy141]; with_reducible exact H) | (have H2_ := (Option.bind_some _ _).symm.trans H; rw [hy141]; with_reducible exact H2_) | (have H2_ := (Option.bind_some _ _).symm.trans H; with_reducible exact H2_) | with_reducible exact H | (rw [hy141]; exact H) | exact H
        have Ny141 := ak hy141; clear hy141
        by_cases c13 : y138.length + y141.length < 8796093022208
        ·rw [if_pos c13] at H
         have LMc13 := ak c13; clear c13; obtain ⟨y144, hy144⟩ : ∃ y_ : List (S49), y_ = (y138 ++ y141) := ⟨_, rfl⟩
         replace H : ((some (l0.drop (x5_1 : Int).toNat : List (S49))).bind fun y147 => (if y144.length + y147.length < 8796093022208 then (some (y144 ++ y147)) else (none))) = some r := by first | (rw [hy144]; with_reducible exact H) | (have H2_ := (Option.bind_some _ _).symm.trans H; rw [hy144]; with_reducible exact H2_) | (have H2_ := (Option.bind_some _ _).symm.trans H; with_reducible exact H2_) | with_reducible exact H | (rw [hy144]; exact H) | exact H
         have Ny144 := ak hy144; clear hy144; have c14b0 := eq_true (dq : 0 ≤ x5_1); have c15b0 := eq_true (dq : x5_1 ≤ (l0.length : Int)); obtain ⟨y147, hy147⟩ : ∃ y_ : List (S49), y_ = (l0.drop (x5_1 : Int).toNat) := ⟨_, rfl⟩
         replace H : (if y144.length + y147.length < 8796093022208 then (some (y144 ++ y147)) else (none)) = some r := by first | (rw [hy147]; with_reducible exact H) | (have H2_ := (Option.bind_some _ _).symm.trans H; rw [hy147]; with_reducible exact H2_) | (have H2_ := (Option.bind_some _ _).symm.trans H; with_reducible exact H2_) | with_reducible exact H | (rw [hy147]; exact H) | exact H
         have Ny147 := ak hy147; clear hy147
         by_cases c16 : y144.length + y147.length < 8796093022208
         ·rw [if_pos c16] at H
          have LMc16 := ak c16; clear c16; obtain ⟨y151, hy151⟩ : ∃ y_ : List (S49), y_ = (y144 ++ y147) := ⟨_, rfl⟩
          replace H : (some y151) = some r := by first | (rw [hy151]; with_reducible exact H) | (have H2_ := (Option.bind_some _ _).symm.trans H; rw [hy151]; with_reducible exact H2_) | (have H2_ := (Option.bind_some _ _).symm.trans H; with_reducible exact H2_) | with_reducible exact H | (rw [hy151]; exact H) | exact H
          have Ny151 := ak hy151; clear hy151; obtain rfl := Option.some.inj H; (try go_wp2); have n0_ := ak (blk_drew BK128.out); have n1_ := ak (below_drew1 HB.out); clear BK128; clear HB; have BK128 := n0_; have HB := n1_; clear n0_ n1_; have p129 : 0 ≤ (x5_1 : Int) := dq; have q129 : x5_1 < (l0.length : Int) := dq; obtain ⟨ad129, e129, hx129_0, hx129_1⟩ := at_T49 HR0.out x5_1 p129 q129; have hw129_1 := hx129_1; have hw129_0 := hx129_0; cases e129; replace hx129_0 := hb_ HB hx129_0; replace hx129_1 := hb_ HB hx129_1; replace p129 := eq_true p129; replace q129 := eq_true q129; refine start_ (n := 12) (S := fun w' => w'.cell? ⟨gb128, 0, none⟩ = some (.int .i64 a1_0) ∧ w'.cell? ⟨gb128, 1, none⟩ = some (.int .i64 a1_1) ∧ w'.cell? (ad129.add ((x5_1).toNat * 2)) = some (.int .i64 ((rd_T49 l0 x5_1).f0)) ∧ w'.cell? ⟨(ad129.add ((x5_1).toNat * 2)).block, (ad129.add ((x5_1).toNat * 2)).off + 1, none⟩ = some (.int .i64 ((rd_T49 l0 x5_1).f1))) (ds := []) #[Z,Z,Z,Z,Z,Z,Z,Z,Z,Z,Z,Z] (by kernel_rfl) rfl rfl ⟨(blk_cell BK128.out 0).trans rfl, (blk_cell BK128.out 1).trans rfl, ((hb_ HB hw129_0).trans rfl), ((hb_ HB hw129_1).trans rfl)⟩ (fun hHeld => ?_); refine with_tabW spec_l8Put.tab2 spec_l8Put.bits2 (fun HT_ HW_ => ?_)
          generalize wr.drew = w17 at BK128 HB hx129_0 hx129_1 hHeld ⊢
          refine pq_ (i := 0) (N := some 6) #[Y,Z,Z,Z,Z,Z,Z,Z,Z,Z,Z,Z] HT_ ?_; refine pq_ (i := 1) (N := some 7) #[Y,Y,Z,Z,Z,Z,Z,Z,Z,Z,Z,Z] HT_ ?_; refine pq_ (i := 2) (N := some 8) #[Y,Y,Y,Z,Z,Z,Z,Z,Z,Z,Z,Z] HT_ ?_; refine pq_ (i := 3) (N := some 9) #[Y,Y,Y,Y,Z,Z,Z,Z,Z,Z,Z,Z] HT_ ?_; refine pq_ (i := 4) (N := some 10) #[Y,Y,Y,Y,Y,Z,Z,Z,Z,Z,Z,Z] HT_ ?_; refine pq_ (i := 5) (N := some 11) #[Y,Y,Y,Y,Y,Y,Z,Z,Z,Z,Z,Z] HT_ ?_; refine pq_ (i := 6) (N := some 12) #[Y,Y,Y,Y,Y,Y,Y,Z,Z,Z,Z,Z] HT_ ?_; refine pq_ (i := 7) (N := some 13) #[Y,Y,Y,Y,Y,Y,Y,Y,Z,Z,Z,Z] HT_ ?_; refine tk_ (i := 8) (N := some 14) #[Y,Y,Y,Y,Y,Y,Y,Y,Y,Z,Z,Z] HT_ HW_ hHeld ?_; refine tk_ (i := 9) (N := some 15) #[Y,Y,Y,Y,Y,Y,Y,Y,Y,Y,Z,Z] HT_ HW_ hHeld ?_; refine one_ (i := 10) (N := some 16) #[Y,Y,Y,Y,Y,Y,Y,Y,Y,Y,Y,Z] rfl rfl (one_of HT_.out (by kernel_rfl)) (by decide) (fun K hK => ?_); refine goes_ Try.func106 (by kernel_rfl) rfl #[.agg #[.int .i64 ((rd_T49 l0 x5_1).f0), .int .i64 ((rd_T49 l0 x5_1).f1)], .agg #[.int .i64 a1_0, .int .i64 a1_1]] (by rfl) rfl rfl aq ?_
          with_reducible refine (spec_l8Before.calls ((rd_T49 l0 x5_1).f0) ((rd_T49 l0 x5_1).f1) a1_0 a1_1 false _ A6.out).mono ?_
          rintro e w18 ⟨rfl, hb⟩
          refine ⟨_, rfl, ?_⟩; have n0_ := ak (blk_below (g := gb128) (o := .cells #[.int .i64 a1_0, .int .i64 a1_1] 49 (0, 0)) (uq BK128) hb); have n1_ := ak (below_step bs hb); clear BK128; clear HB; have BK128 := n0_; have HB := n1_; clear n0_ n1_
          (try clear hb)
          refine hK.out _ _ ⟨(blk_cell BK128.out 0).trans rfl, (blk_cell BK128.out 1).trans rfl, ((hb_ HB hw129_0).trans rfl), ((hb_ HB hw129_1).trans rfl)⟩ (fun hHeld => ?_); clear hK K; refine norm_ (a' := ?_) ?_ ?_; rotate_left
          ·show Act.put _ (some 16) _ = _
           simp only [Act.put, sA, sZ, sS, i64_w, i32_w]
           rfl
          refine pq_ (i := 11) (N := some 17) #[Y,Y,Y,Y,Y,Y,Y,Y,Y,Y,Y,Y] HT_ ?_; refine done_ (done_of HT_.out (by kernel_rfl)) ?_; (try go_wp2); have n0_ := ak (blk_drew BK128.out); have n1_ := ak (below_drew1 HB.out); clear BK128; clear HB; have BK128 := n0_; have HB := n1_; clear n0_ n1_; have q20 : (x5_1 : Int) ≤ ((l0.length : Int) : Int) := dq; obtain ⟨i020, hi020, _, hsz20, _⟩ := info_parts info49; have hroom20 : l0.length ≤ c0 := HC0.out; have hC20 : Kd.C k49 _ (some ad129) l0.length l0 := HR0.out; have hcut20 := cut_to (P := Try.prog) 22 49 .i64 Try.underlying22 hi020 (some ad129) l0.length c0 x5_1 (dq) q20 hroom20; have hr20 := Kd.C_take (m := (x5_1 : Int).toNat) hC20 (by omega); have hy20 : y134.length = (x5_1 : Int).toNat := (by rw [Ny134.out, List.length_take]; omega); rw [← Ny134.out] at hr20; rw [← hy20] at hcut20; have HR137 := ak hr20; have HC137 := ak (show y134.length ≤ c0 from by omega); clear hr20 hC20 hroom20 hi020 hsz20; have KY20 := ak hy20; clear hy20; replace q20 := eq_true q20; have q21 : (x5_1 : Int) ≤ ((l0.length : Int) : Int) := dq; obtain ⟨i021, hi021, _, hsz21, _⟩ := info_parts info49; have hroom21 : l0.length ≤ c0 := HC0.out; have hC21 : Kd.C k49 _ (some ad129) l0.length l0 := HR0.out; have q021 : (0 : Int) ≤ (x5_1 : Int) := dq; have hcut21 := cut_from (P := Try.prog) 22 49 .i64 Try.underlying22 hi021 2 hsz21 (some ad129) l0.length c0 x5_1 q021 q21; have hr21 := Kd.C_drop (m := (x5_1 : Int).toNat) (c := c0) hC21 (by omega) hroom21; obtain ⟨A21, hA21⟩ : ∃ A1, A1 = (if c0 = (x5_1 : Int).toNat then (some ad129) else ((some ad129) : Option Addr).map (·.add ((x5_1 : Int).toNat * 2))) := ⟨_, rfl⟩; obtain ⟨c21, hc21⟩ : ∃ c1, c1 = c0 - (x5_1 : Int).toNat := ⟨_, rfl⟩; have hy21 : y147.length = l0.length - (x5_1 : Int).toNat := (by rw [Ny147.out, List.length_drop] <;> omega); rw [show (l0).drop (x5_1 : Int).toNat = y147 from Ny147.out.symm] at hr21; replace hr21 : Kd.C k49 _ A21 y147.length y147 := (by rw [hA21]; exact hr21); rw [← hy21, ← hA21, ← hc21] at hcut21; have HR150 := ak hr21; have HC150 := ak (show y147.length ≤ c21 from by rw [hy21, hc21]; exact Nat.sub_le_sub_right hroom21 _); clear hr21 hC21 hroom21 hi021 hsz21 hc21; have KY21 := ak hy21; have KA21 := ak hA21; clear hy21 hA21; replace q21 := eq_true q21; refine start_ (n := 13) (S := fun w' => w'.cell? ⟨gb128, 0, none⟩ = some (.int .i64 a1_0) ∧ w'.cell? ⟨gb128, 1, none⟩ = some (.int .i64 a1_1)) (ds := []) #[Z,Z,Z,Z,Z,Z,Z,Z,Z,Z,Z,Z,Z] (by kernel_rfl) rfl rfl ⟨(blk_cell BK128.out 0).trans rfl, (blk_cell BK128.out 1).trans rfl⟩ (fun hHeld => ?_); refine with_tabW spec_l8Put.tab4 spec_l8Put.bits4 (fun HT_ HW_ => ?_)
          generalize w18.drew = w19 at BK128 HB HR137 HR150 hHeld ⊢
          refine pq_ (i := 1) (N := some 21) #[Z,Y,Z,Z,Z,Z,Z,Z,Z,Z,Z,Z,Z] HT_ ?_; refine pq_ (i := 2) (N := some 22) #[Z,Y,Y,Z,Z,Z,Z,Z,Z,Z,Z,Z,Z] HT_ ?_; refine pq_ (i := 3) (N := some 23) #[Z,Y,Y,Y,Z,Z,Z,Z,Z,Z,Z,Z,Z] HT_ ?_; refine pq_ (i := 8) (N := some 28) #[Z,Y,Y,Y,Z,Z,Z,Z,Y,Z,Z,Z,Z] HT_ ?_; refine pq_ (i := 9) (N := some 29) #[Z,Y,Y,Y,Z,Z,Z,Z,Y,Y,Z,Z,Z] HT_ ?_; refine pq_ (i := 10) (N := some 30) #[Z,Y,Y,Y,Z,Z,Z,Z,Y,Y,Y,Z,Z] HT_ ?_; refine tk_ (i := 5) (N := some 25) #[Z,Y,Y,Y,Z,Y,Z,Z,Y,Y,Y,Z,Z] HT_ HW_ hHeld ?_; refine join_ (σ := Value × Value × Value) 3 #[Y,Y,Y,Y,Y,Y,Y,Z,Y,Y,Y,Z,Z] (fun s_ => [(20, s_.1), (24, s_.2.1), (26, s_.2.2)]) (fun s_ w' => (w'.cell? ⟨gb128, 0, none⟩ = some (.int .i64 a1_0) ∧ w'.cell? ⟨gb128, 1, none⟩ = some (.int .i64 a1_1)) ∧ (Kd.R k49 49 w' w.heap.size (fun k_ => some k_ ≠ (s_.2.2 : Value).ownBlock ∧ k_ ≠ gb128) s_.2.1 y138) ∧ (Kd.R k49 49 w' w.heap.size (fun k_ => some k_ ≠ (s_.2.1 : Value).ownBlock ∧ k_ ≠ gb128) s_.2.2 y141) ∧ (w'.heap[gb128]? = some (.cells #[.int .i64 a1_0, .int .i64 a1_1] 49 (0, 0))) ∧ (Below w.heap.size w w')) ?_ ?_; rotate_left
          ·intro hCont
           refine two_ (i := 0) (j := 6) (Ni := some 20) (Nj := some 26) #[Y,Y,Y,Y,Z,Y,Z,Z,Y,Y,Y,Z,Z] #[Z,Y,Y,Y,Z,Y,Y,Z,Y,Y,Y,Z,Z] rfl rfl rfl rfl (two_of HT_.out (by kernel_rfl)) (by decide) (by decide) (fun K hK => ?_) (fun K hK => ?_)
           ·skip
            refine Kd.R_lit_step k49 _ 49 ?hg (N := 20) ?hd (xs := ([] : List (S49))) (inner := []) (ok := fun _ => True) (okp := fun _ => True) ?hr ?hp (fun _ hk => hk) trivial (Below.refl _ _) (Nat.le_refl _) (by simp) ?_; (case hd => rfl); (case hg => rfl); (case hr => (go_simp; done)); (case hp => exact (Reps.none _ _)); intro v132 w22 ho23 hb hg_ hnew_; clear hg_ hnew_
            (rw [← Ny131.out] at ho23)
            have n0_ := ak (Kd.R_lower (Kd.R_newB ho23 (g := gb128) (o := .cells #[.int .i64 a1_0, .int .i64 a1_1] 49 (0, 0)) (uq BK128)) (below_size bs)); have n1_ := ak (blk_below (g := gb128) (o := .cells #[.int .i64 a1_0, .int .i64 a1_1] 49 (0, 0)) (uq BK128) hb); have n2_ := ak (below_step bs hb); clear BK128; clear HB; have HO133 := n0_; have BK128 := n1_; have HB := n2_; clear n0_ n1_ n2_; clear hb ho23; refine hK.out _ _ ⟨(blk_cell BK128.out 0).trans rfl, (blk_cell BK128.out 1).trans rfl⟩ (fun hHeld => ?_); clear hK K; refine norm_ (a' := ?_) ?_ ?_; rotate_left
            ·show Act.put _ (some 20) _ = _
             simp only [Act.put, sA, sZ, sS, i64_w, i32_w]
             rfl
            refine two_ (i := 4) (j := 6) (Ni := some 24) (Nj := some 26) #[Y,Y,Y,Y,Y,Y,Z,Z,Y,Y,Y,Z,Z] #[Y,Y,Y,Y,Z,Y,Y,Z,Y,Y,Y,Z,Z] rfl rfl rfl rfl (two_of HT_.out (by kernel_rfl)) (by decide) (by decide) (fun K hK => ?_) (fun K hK => ?_)
            ·skip
             refine Kd.R_append_rows_step k49 (w0 := w) w.heap.size (by rfl) (.tmp 20) (.tmp 23) 22 49 (.agg #[(.int .i64 0), (.int .i64 0)]) 16 rfl Try.underlying22 info49 rfl (by decide) (by omega) v132 y131 y134 _ _ _ (fun k_ => k_ ≠ gb128) (fun _ => False) rfl rfl ?aO ?aR (fun _ _ h => h) (fun _ h => h.elim) ?aF ?aB ?aS ?aL ?_
             (case aR => exact cq (Kd.C_below HR137.out HB.out))
             (case aB => exact bs)
             (case aF => exact (fun k_ hk => Kd.freshB (g := gb128) (o := .cells #[.int .i64 a1_0, .int .i64 a1_1] 49 (0, 0)) (uq BK128) k_ hk))
             (case aO => exact (by exact Kd.R_mono HO133.out (fun _ hk => hk.2)))
             (case aS => exact (below_size bs))
             (case aL => have := LMc12.out; omega)
             intro v139 w24 ho hb hg hat; rw [← Ny138.out] at ho; have n0_ := ak (blk_grown (g := gb128) (o := .cells #[.int .i64 a1_0, .int .i64 a1_1] 49 (0, 0)) (uq BK128) hg (Kd.R_away HO133.out (fun _ hk => hk.2))); have n1_ := ak (hb); have n2_ := ak (ho); clear BK128; clear HB; clear HO133; have BK128 := n0_; have HB := n1_; have HO140 := n2_; clear n0_ n1_ n2_; clear ho hb hg hat; refine hK.out _ _ ⟨(blk_cell BK128.out 0).trans rfl, (blk_cell BK128.out 1).trans rfl⟩ (fun hHeld => ?_); clear hK K; refine norm_ (a' := ?_) ?_ ?_; rotate_left
             ·show Act.put _ (some 24) _ = _
              simp only [Act.put, sA, sZ, sS, i64_w, i32_w]
              rfl
             refine one_ (i := 6) (N := some 26) #[Y,Y,Y,Y,Y,Y,Y,Z,Y,Y,Y,Z,Z] rfl rfl (one_of HT_.out (by kernel_rfl)) (by decide) (fun K hK => ?_); refine Kd.R_lit_step k49 _ 49 ?hg (N := 26) ?hd (xs := ([(⟨a1_0, a1_1⟩ : S49)] : List (S49))) (inner := [.int .i64 a1_0, .int .i64 a1_1]) (ok := fun _ => True) (okp := fun _ => True) ?hr ?hp (fun _ hk => hk) trivial (Below.refl _ _) (Nat.le_refl _) (by simp) ?_; (case hd => rfl); (case hg => rfl); (case hr => (go_simp; done)); (case hp => exact (Reps.c2 (show Kd.M k49 _ _ _ (⟨a1_0, a1_1⟩ : S49) [.int .i64 a1_0, .int .i64 a1_1] from (k49_mkM _ _ _ (⟨a1_0, a1_1⟩ : S49) )) (Reps.none _ _))); intro v142 w25 ho26 hb hg_ hnew_; clear hg_ hnew_
             (rw [← Ny141.out] at ho26)
             have n0_ := ak (Kd.R_elder' (rq HO140) (Kd.R_base ho26) hb); have n1_ := ak (Kd.R_lower (Kd.R_newB (Kd.R_new' ho26 (Kd.R_lt (rq HO140))) (g := gb128) (o := .cells #[.int .i64 a1_0, .int .i64 a1_1] 49 (0, 0)) (uq BK128)) (below_size bs)); have n2_ := ak (blk_below (g := gb128) (o := .cells #[.int .i64 a1_0, .int .i64 a1_1] 49 (0, 0)) (uq BK128) hb); have n3_ := ak (below_step bs hb); clear HO140; clear BK128; clear HB; have HO140 := n0_; have HO143 := n1_; have BK128 := n2_; have HB := n3_; clear n0_ n1_ n2_ n3_; clear hb ho26; refine hK.out _ _ ⟨(blk_cell BK128.out 0).trans rfl, (blk_cell BK128.out 1).trans rfl⟩ (fun hHeld => ?_); clear hK K; refine norm_ (a' := ?_) ?_ ?_; rotate_left
             ·show Act.put _ (some 26) _ = _
              simp only [Act.put, sA, sZ, sS, i64_w, i32_w]
              rfl
             exact norm_ (by simp only [putAll, Act.put, List.setIfInBounds_toArray, List.set_cons_zero, List.set_cons_succ]) (hCont (v132, v139, v142) _ ⟨hHeld, (by exact Kd.R_mono HO140.out (fun _ hk => ⟨hk.2, hk.1⟩)), (by exact Kd.R_mono HO143.out (fun _ hk => ⟨hk.1.2, hk.2⟩)), (uq BK128), bs⟩)
            ·skip
             refine Kd.R_lit_step k49 _ 49 ?hg (N := 26) ?hd (xs := ([(⟨a1_0, a1_1⟩ : S49)] : List (S49))) (inner := [.int .i64 a1_0, .int .i64 a1_1]) (ok := fun _ => True) (okp := fun _ => True) ?hr ?hp (fun _ hk => hk) trivial (Below.refl _ _) (Nat.le_refl _) (by simp) ?_; (case hd => rfl); (case hg => rfl); (case hr => (go_simp; done)); (case hp => exact (Reps.c2 (show Kd.M k49 _ _ _ (⟨a1_0, a1_1⟩ : S49) [.int .i64 a1_0, .int .i64 a1_1] from (k49_mkM _ _ _ (⟨a1_0, a1_1⟩ : S49) )) (Reps.none _ _))); intro v142 w24 ho25 hb hg_ hnew_; clear hg_ hnew_
             (rw [← Ny141.out] at ho25)
             have n0_ := ak (Kd.R_elder' (rq HO133) (Kd.R_base ho25) hb); have n1_ := ak (Kd.R_lower (Kd.R_newB (Kd.R_new' ho25 (Kd.R_lt (rq HO133))) (g := gb128) (o := .cells #[.int .i64 a1_0, .int .i64 a1_1] 49 (0, 0)) (uq BK128)) (below_size bs)); have n2_ := ak (blk_below (g := gb128) (o := .cells #[.int .i64 a1_0, .int .i64 a1_1] 49 (0, 0)) (uq BK128) hb); have n3_ := ak (below_step bs hb); clear HO133; clear BK128; clear HB; have HO133 := n0_; have HO143 := n1_; have BK128 := n2_; have HB := n3_; clear n0_ n1_ n2_ n3_; clear hb ho25; refine hK.out _ _ ⟨(blk_cell BK128.out 0).trans rfl, (blk_cell BK128.out 1).trans rfl⟩ (fun hHeld => ?_); clear hK K; refine norm_ (a' := ?_) ?_ ?_; rotate_left
             ·show Act.put _ (some 26) _ = _
              simp only [Act.put, sA, sZ, sS, i64_w, i32_w]
              rfl
             refine one_ (i := 4) (N := some 24) #[Y,Y,Y,Y,Y,Y,Y,Z,Y,Y,Y,Z,Z] rfl rfl (one_of HT_.out (by kernel_rfl)) (by decide) (fun K hK => ?_); refine Kd.R_append_rows_step k49 (w0 := w) w.heap.size (by rfl) (.tmp 20) (.tmp 23) 22 49 (.agg #[(.int .i64 0), (.int .i64 0)]) 16 rfl Try.underlying22 info49 rfl (by decide) (by omega) v132 y131 y134 _ _ _ (fun k_ => some k_ ≠ (v142 : Value).ownBlock ∧ k_ ≠ gb128) (fun _ => False) rfl rfl ?aO ?aR (fun _ _ h => h) (fun _ h => h.elim) ?aF ?aB ?aS ?aL ?_
             (case aR => exact cq (Kd.C_below HR137.out HB.out))
             (case aB => exact bs)
             (case aF => exact (fun k_ hk => ⟨Kd.fresh' (Kd.R_lt (rq HO143)) k_ hk, Kd.freshB (g := gb128) (o := .cells #[.int .i64 a1_0, .int .i64 a1_1] 49 (0, 0)) (uq BK128) k_ hk⟩))
             (case aO => exact (by exact Kd.R_mono HO133.out (fun _ hk => ⟨hk.2, hk.1.2⟩)))
             (case aS => exact (below_size bs))
             (case aL => have := LMc12.out; omega)
             intro v139 w26 ho hb hg hat; rw [← Ny138.out] at ho; have n0_ := ak (blk_grown (g := gb128) (o := .cells #[.int .i64 a1_0, .int .i64 a1_1] 49 (0, 0)) (uq BK128) hg (Kd.R_away HO133.out (fun _ hk => hk.1.2))); have n1_ := ak (Kd.R_after (ok := (fun k_ => k_ ≠ gb128)) (by exact Kd.R_mono HO143.out (fun _ hk => ⟨hk.2, hk.1.2⟩)) hg hat); have n2_ := ak (hb); have n3_ := ak (ho); clear BK128; clear HO143; clear HB; clear HO133; have BK128 := n0_; have HO143 := n1_; have HB := n2_; have HO140 := n3_; clear n0_ n1_ n2_ n3_; clear ho hb hg hat; refine hK.out _ _ ⟨(blk_cell BK128.out 0).trans rfl, (blk_cell BK128.out 1).trans rfl⟩ (fun hHeld => ?_); clear hK K; refine norm_ (a' := ?_) ?_ ?_; rotate_left
             ·show Act.put _ (some 24) _ = _
              simp only [Act.put, sA, sZ, sS, i64_w, i32_w]
              rfl
             exact norm_ (by simp only [putAll, Act.put, List.setIfInBounds_toArray, List.set_cons_zero, List.set_cons_succ]) (hCont (v132, v139, v142) _ ⟨hHeld, (rq HO140), (by exact Kd.R_mono HO143.out (fun _ hk => ⟨hk.2, hk.1⟩)), (uq BK128), bs⟩)
           ·skip
            refine Kd.R_lit_step k49 _ 49 ?hg (N := 26) ?hd (xs := ([(⟨a1_0, a1_1⟩ : S49)] : List (S49))) (inner := [.int .i64 a1_0, .int .i64 a1_1]) (ok := fun _ => True) (okp := fun _ => True) ?hr ?hp (fun _ hk => hk) trivial (Below.refl _ _) (Nat.le_refl _) (by simp) ?_; (case hd => rfl); (case hg => rfl); (case hr => (go_simp; done)); (case hp => exact (Reps.c2 (show Kd.M k49 _ _ _ (⟨a1_0, a1_1⟩ : S49) [.int .i64 a1_0, .int .i64 a1_1] from (k49_mkM _ _ _ (⟨a1_0, a1_1⟩ : S49) )) (Reps.none _ _))); intro v142 w22 ho23 hb hg_ hnew_; clear hg_ hnew_
            (rw [← Ny141.out] at ho23)
            have n0_ := ak (Kd.R_lower (Kd.R_newB ho23 (g := gb128) (o := .cells #[.int .i64 a1_0, .int .i64 a1_1] 49 (0, 0)) (uq BK128)) (below_size bs)); have n1_ := ak (blk_below (g := gb128) (o := .cells #[.int .i64 a1_0, .int .i64 a1_1] 49 (0, 0)) (uq BK128) hb); have n2_ := ak (below_step bs hb); clear BK128; clear HB; have HO143 := n0_; have BK128 := n1_; have HB := n2_; clear n0_ n1_ n2_; clear hb ho23; refine hK.out _ _ ⟨(blk_cell BK128.out 0).trans rfl, (blk_cell BK128.out 1).trans rfl⟩ (fun hHeld => ?_); clear hK K; refine norm_ (a' := ?_) ?_ ?_; rotate_left
            ·show Act.put _ (some 26) _ = _
             simp only [Act.put, sA, sZ, sS, i64_w, i32_w]
             rfl
            refine one_ (i := 0) (N := some 20) #[Y,Y,Y,Y,Z,Y,Y,Z,Y,Y,Y,Z,Z] rfl rfl (one_of HT_.out (by kernel_rfl)) (by decide) (fun K hK => ?_); refine Kd.R_lit_step k49 _ 49 ?hg (N := 20) ?hd (xs := ([] : List (S49))) (inner := []) (ok := fun _ => True) (okp := fun _ => True) ?hr ?hp (fun _ hk => hk) trivial (Below.refl _ _) (Nat.le_refl _) (by simp) ?_; (case hd => rfl); (case hg => rfl); (case hr => (go_simp; done)); (case hp => exact (Reps.none _ _)); intro v132 w24 ho25 hb hg_ hnew_; clear hg_ hnew_
            (rw [← Ny131.out] at ho25)
            have n0_ := ak (Kd.R_elder' (rq HO143) (Kd.R_base ho25) hb); have n1_ := ak (Kd.R_lower (Kd.R_newB (Kd.R_new' ho25 (Kd.R_lt (rq HO143))) (g := gb128) (o := .cells #[.int .i64 a1_0, .int .i64 a1_1] 49 (0, 0)) (uq BK128)) (below_size bs)); have n2_ := ak (blk_below (g := gb128) (o := .cells #[.int .i64 a1_0, .int .i64 a1_1] 49 (0, 0)) (uq BK128) hb); have n3_ := ak (below_step bs hb); clear HO143; clear BK128; clear HB; have HO143 := n0_; have HO133 := n1_; have BK128 := n2_; have HB := n3_; clear n0_ n1_ n2_ n3_; clear hb ho25; refine hK.out _ _ ⟨(blk_cell BK128.out 0).trans rfl, (blk_cell BK128.out 1).trans rfl⟩ (fun hHeld => ?_); clear hK K; refine norm_ (a' := ?_) ?_ ?_; rotate_left
            ·show Act.put _ (some 20) _ = _
             simp only [Act.put, sA, sZ, sS, i64_w, i32_w]
             rfl
            refine one_ (i := 4) (N := some 24) #[Y,Y,Y,Y,Y,Y,Y,Z,Y,Y,Y,Z,Z] rfl rfl (one_of HT_.out (by kernel_rfl)) (by decide) (fun K hK => ?_); refine Kd.R_append_rows_step k49 (w0 := w) w.heap.size (by rfl) (.tmp 20) (.tmp 23) 22 49 (.agg #[(.int .i64 0), (.int .i64 0)]) 16 rfl Try.underlying22 info49 rfl (by decide) (by omega) v132 y131 y134 _ _ _ (fun k_ => some k_ ≠ (v142 : Value).ownBlock ∧ k_ ≠ gb128) (fun _ => False) rfl rfl ?aO ?aR (fun _ _ h => h) (fun _ h => h.elim) ?aF ?aB ?aS ?aL ?_
            (case aR => exact cq (Kd.C_below HR137.out HB.out))
            (case aB => exact bs)
            (case aF => exact (fun k_ hk => ⟨Kd.fresh' (Kd.R_lt (rq HO143)) k_ hk, Kd.freshB (g := gb128) (o := .cells #[.int .i64 a1_0, .int .i64 a1_1] 49 (0, 0)) (uq BK128) k_ hk⟩))
            (case aO => exact (by exact Kd.R_mono HO133.out (fun _ hk => ⟨hk.1.2, hk.2⟩)))
            (case aS => exact (below_size bs))
            (case aL => have := LMc12.out; omega)
            intro v139 w26 ho hb hg hat; rw [← Ny138.out] at ho; have n0_ := ak (blk_grown (g := gb128) (o := .cells #[.int .i64 a1_0, .int .i64 a1_1] 49 (0, 0)) (uq BK128) hg (Kd.R_away HO133.out (fun _ hk => hk.2))); have n1_ := ak (Kd.R_after (ok := (fun k_ => k_ ≠ gb128)) (by exact Kd.R_mono HO143.out (fun _ hk => ⟨hk.1.2, hk.2⟩)) hg hat); have n2_ := ak (hb); have n3_ := ak (ho); clear BK128; clear HO143; clear HB; clear HO133; have BK128 := n0_; have HO143 := n1_; have HB := n2_; have HO140 := n3_; clear n0_ n1_ n2_ n3_; clear ho hb hg hat; refine hK.out _ _ ⟨(blk_cell BK128.out 0).trans rfl, (blk_cell BK128.out 1).trans rfl⟩ (fun hHeld => ?_); clear hK K; refine norm_ (a' := ?_) ?_ ?_; rotate_left
            ·show Act.put _ (some 24) _ = _
             simp only [Act.put, sA, sZ, sS, i64_w, i32_w]
             rfl
            exact norm_ (by simp only [putAll, Act.put, List.setIfInBounds_toArray, List.set_cons_zero, List.set_cons_succ]) (hCont (v132, v139, v142) _ ⟨hHeld, (rq HO140), (by exact Kd.R_mono HO143.out (fun _ hk => ⟨hk.2, hk.1⟩)), (uq BK128), bs⟩)
          rintro ⟨v132, v139, v142⟩ w27 ⟨hS_, h0_, h1_, h2_, h3_⟩
          have n0_ : Aside0 (Kd.R k49 49 w27 w.heap.size (fun k_ => some k_ ≠ (v142 : Value).ownBlock ∧ k_ ≠ gb128) v139 y138) := ⟨h0_⟩; have n1_ : Aside0 (Kd.R k49 49 w27 w.heap.size (fun k_ => some k_ ≠ (v139 : Value).ownBlock ∧ k_ ≠ gb128) v142 y141) := ⟨h1_⟩; have n2_ : Aside0 (w27.heap[gb128]? = some (.cells #[.int .i64 a1_0, .int .i64 a1_1] 49 (0, 0))) := ⟨h2_⟩; have n3_ : Aside0 (Below w.heap.size w w27) := ⟨h3_⟩; clear BK128; clear HB; clear h0_ h1_ h2_ h3_; have HO140 := n0_; have HO143 := n1_; have BK128 := n2_; have HB := n3_; clear n0_ n1_ n2_ n3_; have hHeld : w27.cell? ⟨gb128, 0, none⟩ = some (.int .i64 a1_0) ∧ w27.cell? ⟨gb128, 1, none⟩ = some (.int .i64 a1_1) := hS_; obtain ⟨Ao29, co29, eo29⟩ := Kd.R_slice HO143.out
          (subst eo29)
          refine norm_ (a' := ?_) ?_ ?_; rotate_left
          ·simp only [putAll, Act.put, List.setIfInBounds_toArray, List.set_cons_zero, List.set_cons_succ]
           rfl
          refine one_ (i := 7) (N := some 27) #[Y,Y,Y,Y,Y,Y,Y,Y,Y,Y,Y,Z,Z] rfl rfl (one_of HT_.out (by kernel_rfl)) (by decide) (fun K hK => ?_); refine Kd.R_append_rows_step k49 (w0 := w) w.heap.size (by rfl) (.tmp 24) (.tmp 26) 22 49 (.agg #[(.int .i64 0), (.int .i64 0)]) 16 rfl Try.underlying22 info49 rfl (by decide) (by omega) v139 y138 y141 _ _ _ (fun k_ => some k_ ≠ (.slice Ao29 y141.length co29 : Value).ownBlock ∧ k_ ≠ gb128) (fun _ => False) rfl rfl ?aO ?aR (fun _ _ h => h) (fun _ h => h.elim) ?aF ?aB ?aS ?aL ?_
          (case aR => exact cq (Kd.R_reads' HO143.out).2.2)
          (case aB => exact bs)
          (case aF => exact (fun k_ hk => ⟨Kd.fresh' (Kd.R_lt (rq HO143)) k_ hk, Kd.freshB (g := gb128) (o := .cells #[.int .i64 a1_0, .int .i64 a1_1] 49 (0, 0)) (uq BK128) k_ hk⟩))
          (case aO => exact (rq HO140))
          (case aS => exact (below_size bs))
          (case aL => have := LMc13.out; omega)
          intro v145 w28 ho hb hg hat; rw [← Ny144.out] at ho; have n0_ := ak (blk_grown (g := gb128) (o := .cells #[.int .i64 a1_0, .int .i64 a1_1] 49 (0, 0)) (uq BK128) hg (Kd.R_away HO140.out (fun _ hk => hk.2))); have n1_ := ak (Kd.R_after (ok := (fun k_ => k_ ≠ gb128)) (by exact Kd.R_mono HO143.out (fun _ hk => ⟨hk.2, hk.1⟩)) hg hat); have n2_ := ak (hb); have n3_ := ak (ho); clear BK128; clear HO143; clear HB; clear HO140; have BK128 := n0_; have HO143 := n1_; have HB := n2_; have HO146 := n3_; clear n0_ n1_ n2_ n3_; clear ho hb hg hat; refine hK.out _ _ ⟨(blk_cell BK128.out 0).trans rfl, (blk_cell BK128.out 1).trans rfl⟩ (fun hHeld => ?_); clear hK K; refine norm_ (a' := ?_) ?_ ?_; rotate_left
          ·show Act.put _ (some 27) _ = _
           simp only [Act.put, sA, sZ, sS, i64_w, i32_w]
           rfl
          refine one_ (i := 11) (N := some 31) #[Y,Y,Y,Y,Y,Y,Y,Y,Y,Y,Y,Y,Z] rfl rfl (one_of HT_.out (by kernel_rfl)) (by decide) (fun K hK => ?_); refine Kd.R_append_rows_step k49 (w0 := w) w.heap.size (by rfl) (.tmp 27) (.tmp 30) 22 49 (.agg #[(.int .i64 0), (.int .i64 0)]) 16 rfl Try.underlying22 info49 rfl (by decide) (by omega) v145 y144 y147 _ _ _ (fun k_ => some k_ ≠ (.slice Ao29 y141.length co29 : Value).ownBlock ∧ k_ ≠ gb128) (fun _ => False) rfl rfl ?aO ?aR (fun _ _ h => h) (fun _ h => h.elim) ?aF ?aB ?aS ?aL ?_
          (case aR => exact cq (Kd.C_below HR150.out HB.out))
          (case aB => exact bs)
          (case aF => exact (fun k_ hk => ⟨Kd.fresh' (Kd.R_lt (rq HO143)) k_ hk, Kd.freshB (g := gb128) (o := .cells #[.int .i64 a1_0, .int .i64 a1_1] 49 (0, 0)) (uq BK128) k_ hk⟩))
          (case aO => exact (rq HO146))
          (case aS => exact (below_size bs))
          (case aL => have := LMc16.out; omega)
          intro v152 w30 ho hb hg hat; rw [← Ny151.out] at ho; have n0_ := ak (blk_grown (g := gb128) (o := .cells #[.int .i64 a1_0, .int .i64 a1_1] 49 (0, 0)) (uq BK128) hg (Kd.R_away HO146.out (fun _ hk => hk.2))); have n1_ := ak (Kd.R_after (ok := (fun k_ => k_ ≠ gb128)) (rq HO143) hg hat); have n2_ := ak (hb); have n3_ := ak (ho); clear BK128; clear HO143; clear HB; clear HO146; have BK128 := n0_; have HO143 := n1_; have HB := n2_; have HO153 := n3_; clear n0_ n1_ n2_ n3_; clear ho hb hg hat; refine hK.out _ _ ⟨(blk_cell BK128.out 0).trans rfl, (blk_cell BK128.out 1).trans rfl⟩ (fun hHeld => ?_); clear hK K; refine norm_ (a' := ?_) ?_ ?_; rotate_left
          ·show Act.put _ (some 31) _ = _
           simp only [Act.put, sA, sZ, sS, i64_w, i32_w]
           rfl
          refine pq_ (i := 12) (N := some 4) #[Y,Y,Y,Y,Y,Y,Y,Y,Y,Y,Y,Y,Y] HT_ ?_; refine done_ (done_of HT_.out (by kernel_rfl)) ?_; (try go_wp2); go_ret; exact ⟨_, eq_, by exact Kd.R_mono HO153.out (fun _ hk => trivial), bs⟩
         ·rw [if_neg c16] at H
          exact absurd H (by simp)
        ·rw [if_neg c13] at H
         exact absurd H (by simp)
       ·rw [if_neg c12] at H
        exact absurd H (by simp)
      ·rw [if_neg c11] at H
       exact absurd H (by simp)
    ·rw [if_neg c5] at H
     exact absurd H (by simp)
   ·rw [if_neg c4] at H
    have c4b0 := decide_eq_false c4; clear c4; obtain ⟨y154, hy154⟩ : ∃ y_ : List (S49), y_ = (([] : List (S49))) := ⟨_, rfl⟩
    replace H : (if 0 ≤ x5_1 then (if x5_1 ≤ (l0.length : Int) then ((some (l0.take (x5_1 : Int).toNat : List (S49))).bind fun y157 => (if y154.length + y157.length < 8796093022208 then ((some (y154 ++ y157 : List (S49))).bind fun y161 => ((some (([(⟨a1_0, a1_1⟩ : S49)] : List (S49)) : List (S49))).bind fun y164 => (if y161.length + y164.length < 8796093022208 then ((some (y161 ++ y164 : List (S49))).bind fun y167 => ((some (l0.drop (x5_1 : Int).toNat : List (S49))).bind fun y170 => (if y167.length + y170.length < 8796093022208 then (some (y167 ++ y170)) else (none)))) else (none)))) else (none))) else (none)) else (none)) = some r := by first | (rw [hy154]; with_reducible exact H) | (have H2_ := (Option.bind_some _ _).symm.trans H; rw [hy154]; with_reducible exact H2_) | (have H2_ := (Option.bind_some _ _).symm.trans H; with_reducible exact H2_) | with_reducible exact H | (rw [hy154]; exact H) | exact H
    have Ny154 := ak hy154; clear hy154
    by_cases c31 : 0 ≤ x5_1
    ·rw [if_pos c31] at H
     have c31b0 := eq_true c31; have c31b1 := decide_eq_true c31; clear c31
     by_cases c32 : x5_1 ≤ (l0.length : Int)
     ·rw [if_pos c32] at H
      have c32b0 := eq_true c32; have c32b1 := decide_eq_true c32; clear c32; obtain ⟨y157, hy157⟩ : ∃ y_ : List (S49), y_ = (l0.take (x5_1 : Int).toNat) := ⟨_, rfl⟩
      replace H : (if y154.length + y157.length < 8796093022208 then ((some (y154 ++ y157 : List (S49))).bind fun y161 => ((some (([(⟨a1_0, a1_1⟩ : S49)] : List (S49)) : List (S49))).bind fun y164 => (if y161.length + y164.length < 8796093022208 then ((some (y161 ++ y164 : List (S49))).bind fun y167 => ((some (l0.drop (x5_1 : Int).toNat : List (S49))).bind fun y170 => (if y167.length + y170.length < 8796093022208 then (some (y167 ++ y170)) else (none)))) else (none)))) else (none)) = some r := by first | (rw [hy157]; with_reducible exact H) | (have H2_ := (Option.bind_some _ _).symm.trans H; rw [hy157]; with_reducible exact H2_) | (have H2_ := (Option.bind_some _ _).symm.trans H; with_reducible exact H2_) | with_reducible exact H | (rw [hy157]; exact H) | exact H
      have Ny157 := ak hy157; clear hy157
      by_cases c33 : y154.length + y157.length < 8796093022208
      ·rw [if_pos c33] at H
       have LMc33 := ak c33; clear c33; obtain ⟨y161, hy161⟩ : ∃ y_ : List (S49), y_ = (y154 ++ y157) := ⟨_, rfl⟩
       replace H : ((some (([(⟨a1_0, a1_1⟩ : S49)] : List (S49)) : List (S49))).bind fun y164 => (if y161.length + y164.length < 8796093022208 then ((some (y161 ++ y164 : List (S49))).bind fun y167 => ((some (l0.drop (x5_1 : Int).toNat : List (S49))).bind fun y170 => (if y167.length + y170.length < 8796093022208 then (some (y167 ++ y170)) else (none)))) else (none))) = some r := by first | (rw [hy161]; with_reducible exact H) | (have H2_ := (Option.bind_some _ _).symm.trans H; rw [hy161]; with_reducible exact H2_) | (have H2_ := (Option.bind_some _ _).symm.trans H; with_reducible exact H2_) | with_reducible exact H | (rw [hy161]; exact H) | exact H
       have Ny161 := ak hy161; clear hy161; obtain ⟨y164, hy164⟩ : ∃ y_ : List (S49), y_ = (([(⟨a1_0, a1_1⟩ : S49)] : List (S49))) := ⟨_, rfl⟩
       replace H : (if y161.length + y164.length < 8796093022208 then ((some (y161 ++ y164 : List (S49))).bind fun y167 => ((some (l0.drop (x5_1 : Int).toNat : List (S49))).bind fun y170 => (if y167.length + y170.length < 8796093022208 then (some (y167 ++ y170)) else (none)))) else (none)) = some r := by first | (rw [hy164]; with_reducible exact H) | (have H2_ := (Option.bind_some _ _).symm.trans H; rw [hy164]; with_reducible exact H2_) | (have H2_ := (Option.bind_some _ _).symm.trans H; with_reducible exact H2_) | with_reducible exact H | (rw [hy164]; exact H) | exact H
       have Ny164 := ak hy164; clear hy164
       by_cases c34 : y161.length + y164.length < 8796093022208
       ·rw [if_pos c34] at H
        have LMc34 := ak c34; clear c34; obtain ⟨y167, hy167⟩ : ∃ y_ : List (S49), y_ = (y161 ++ y164) := ⟨_, rfl⟩
        replace H : ((some (l0.drop (x5_1 : Int).toNat : List (S49))).bind fun y170 => (if y167.length + y170.length < 8796093022208 then (some (y167 ++ y170)) else (none))) = some r := by first | (rw [hy167]; with_reducible exact H) | (have H2_ := (Option.bind_some _ _).symm.trans H; rw [hy167]; with_reducible exact H2_) | (have H2_ := (Option.bind_some _ _).symm.trans H; with_reducible exact H2_) | with_reducible exact H | (rw [hy167]; exact H) | exact H
        have Ny167 := ak hy167; clear hy167; have c35b0 := eq_true (dq : 0 ≤ x5_1); have c36b0 := eq_true (dq : x5_1 ≤ (l0.length : Int)); obtain ⟨y170, hy170⟩ : ∃ y_ : List (S49), y_ = (l0.drop (x5_1 : Int).toNat) := ⟨_, rfl⟩
        replace H : (if y167.length + y170.length < 8796093022208 then (some (y167 ++ y170)) else (none)) = some r := by first | (rw [hy170]; with_reducible exact H) | (have H2_ := (Option.bind_some _ _).symm.trans H; rw [hy170]; with_reducible exact H2_) | (have H2_ := (Option.bind_some _ _).symm.trans H; with_reducible exact H2_) | with_reducible exact H | (rw [hy170]; exact H) | exact H
        have Ny170 := ak hy170; clear hy170
        by_cases c37 : y167.length + y170.length < 8796093022208
        ·rw [if_pos c37] at H
         have LMc37 := ak c37; clear c37; obtain ⟨y174, hy174⟩ : ∃ y_ : List (S49), y_ = (y167 ++ y170) := ⟨_, rfl⟩
         replace H : (some y174) = some r := by first | (rw [hy174]; with_reducible exact H) | (have H2_ := (Option.bind_some _ _).symm.trans H; rw [hy174]; with_reducible exact H2_) | (have H2_ := (Option.bind_some _ _).symm.trans H; with_reducible exact H2_) | with_reducible exact H | (rw [hy174]; exact H) | exact H
         have Ny174 := ak hy174; clear hy174; obtain rfl := Option.some.inj H; (try go_wp2); have n0_ := ak (blk_drew BK128.out); have n1_ := ak (below_drew1 HB.out); clear BK128; clear HB; have BK128 := n0_; have HB := n1_; clear n0_ n1_; refine start_ (n := 12) (S := fun w' => True) (ds := []) #[Z,Z,Z,Z,Z,Z,Z,Z,Z,Z,Z,Z] (by kernel_rfl) rfl rfl trivial (fun hHeld => ?_); refine with_tabW spec_l8Put.tab2 spec_l8Put.bits2 (fun HT_ HW_ => ?_)
         generalize wr.drew = w38 at BK128 HB hHeld ⊢
         refine pq_ (i := 0) (N := some 6) #[Y,Z,Z,Z,Z,Z,Z,Z,Z,Z,Z,Z] HT_ ?_; refine pq_ (i := 1) (N := some 7) #[Y,Y,Z,Z,Z,Z,Z,Z,Z,Z,Z,Z] HT_ ?_; refine pq_ (i := 2) (N := some 8) #[Y,Y,Y,Z,Z,Z,Z,Z,Z,Z,Z,Z] HT_ ?_; refine pq_ (i := 3) (N := some 9) #[Y,Y,Y,Y,Z,Z,Z,Z,Z,Z,Z,Z] HT_ ?_; refine pq_ (i := 4) (N := some 10) #[Y,Y,Y,Y,Y,Z,Z,Z,Z,Z,Z,Z] HT_ ?_; refine pz_ (i := 5) (N := some 11) (v := undef) #[Y,Y,Y,Y,Y,Y,Z,Z,Z,Z,Z,Z] HT_ ?_; refine pz_ (i := 6) (N := some 12) (v := undef) #[Y,Y,Y,Y,Y,Y,Y,Z,Z,Z,Z,Z] HT_ ?_; refine pz_ (i := 7) (N := some 13) (v := undef) #[Y,Y,Y,Y,Y,Y,Y,Y,Z,Z,Z,Z] HT_ ?_; refine pz_ (i := 8) (N := some 14) (v := undef) #[Y,Y,Y,Y,Y,Y,Y,Y,Y,Z,Z,Z] HT_ ?_; refine pz_ (i := 9) (N := some 15) (v := undef) #[Y,Y,Y,Y,Y,Y,Y,Y,Y,Y,Z,Z] HT_ ?_; refine pz_ (i := 10) (N := some 16) (v := undef) #[Y,Y,Y,Y,Y,Y,Y,Y,Y,Y,Y,Z] HT_ ?_; refine pq_ (i := 11) (N := some 17) #[Y,Y,Y,Y,Y,Y,Y,Y,Y,Y,Y,Y] HT_ ?_; refine done_ (done_of HT_.out (by kernel_rfl)) ?_; (try go_wp2); have n0_ := ak (blk_drew BK128.out); have n1_ := ak (below_drew1 HB.out); clear BK128; clear HB; have BK128 := n0_; have HB := n1_; clear n0_ n1_; have q40 : (x5_1 : Int) ≤ ((l0.length : Int) : Int) := dq; obtain ⟨i040, hi040, _, hsz40, _⟩ := info_parts info49; have hroom40 : l0.length ≤ c0 := HC0.out; have hC40 : Kd.C k49 _ A0 l0.length l0 := HR0.out; have hcut40 := cut_to (P := Try.prog) 22 49 .i64 Try.underlying22 hi040 A0 l0.length c0 x5_1 (dq) q40 hroom40; have hr40 := Kd.C_take (m := (x5_1 : Int).toNat) hC40 (by omega); have hy40 : y157.length = (x5_1 : Int).toNat := (by rw [Ny157.out, List.length_take]; omega); rw [← Ny157.out] at hr40; rw [← hy40] at hcut40; have HR160 := ak hr40; have HC160 := ak (show y157.length ≤ c0 from by omega); clear hr40 hC40 hroom40 hi040 hsz40; have KY40 := ak hy40; clear hy40; replace q40 := eq_true q40; have q41 : (x5_1 : Int) ≤ ((l0.length : Int) : Int) := dq; obtain ⟨i041, hi041, _, hsz41, _⟩ := info_parts info49; have hroom41 : l0.length ≤ c0 := HC0.out; have hC41 : Kd.C k49 _ A0 l0.length l0 := HR0.out; have q041 : (0 : Int) ≤ (x5_1 : Int) := dq; have hcut41 := cut_from (P := Try.prog) 22 49 .i64 Try.underlying22 hi041 2 hsz41 A0 l0.length c0 x5_1 q041 q41; have hr41 := Kd.C_drop (m := (x5_1 : Int).toNat) (c := c0) hC41 (by omega) hroom41; obtain ⟨A41, hA41⟩ : ∃ A1, A1 = (if c0 = (x5_1 : Int).toNat then A0 else (A0 : Option Addr).map (·.add ((x5_1 : Int).toNat * 2))) := ⟨_, rfl⟩; obtain ⟨c41, hc41⟩ : ∃ c1, c1 = c0 - (x5_1 : Int).toNat := ⟨_, rfl⟩; have hy41 : y170.length = l0.length - (x5_1 : Int).toNat := (by rw [Ny170.out, List.length_drop] <;> omega); rw [show (l0).drop (x5_1 : Int).toNat = y170 from Ny170.out.symm] at hr41; replace hr41 : Kd.C k49 _ A41 y170.length y170 := (by rw [hA41]; exact hr41); rw [← hy41, ← hA41, ← hc41] at hcut41; have HR173 := ak hr41; have HC173 := ak (show y170.length ≤ c41 from by rw [hy41, hc41]; exact Nat.sub_le_sub_right hroom41 _); clear hr41 hC41 hroom41 hi041 hsz41 hc41; have KY41 := ak hy41; have KA41 := ak hA41
         clear hy41 hA41; replace q41 := eq_true q41; refine start_ (n := 13) (S := fun w' => w'.cell? ⟨gb128, 0, none⟩ = some (.int .i64 a1_0) ∧ w'.cell? ⟨gb128, 1, none⟩ = some (.int .i64 a1_1)) (ds := []) #[Z,Z,Z,Z,Z,Z,Z,Z,Z,Z,Z,Z,Z] (by kernel_rfl) rfl rfl ⟨(blk_cell BK128.out 0).trans rfl, (blk_cell BK128.out 1).trans rfl⟩ (fun hHeld => ?_); refine with_tabW spec_l8Put.tab4 spec_l8Put.bits4 (fun HT_ HW_ => ?_)
         generalize w38.drew = w39 at BK128 HB HR160 HR173 hHeld ⊢
         refine pq_ (i := 1) (N := some 21) #[Z,Y,Z,Z,Z,Z,Z,Z,Z,Z,Z,Z,Z] HT_ ?_; refine pq_ (i := 2) (N := some 22) #[Z,Y,Y,Z,Z,Z,Z,Z,Z,Z,Z,Z,Z] HT_ ?_; refine pq_ (i := 3) (N := some 23) #[Z,Y,Y,Y,Z,Z,Z,Z,Z,Z,Z,Z,Z] HT_ ?_; refine pq_ (i := 8) (N := some 28) #[Z,Y,Y,Y,Z,Z,Z,Z,Y,Z,Z,Z,Z] HT_ ?_; refine pq_ (i := 9) (N := some 29) #[Z,Y,Y,Y,Z,Z,Z,Z,Y,Y,Z,Z,Z] HT_ ?_; refine pq_ (i := 10) (N := some 30) #[Z,Y,Y,Y,Z,Z,Z,Z,Y,Y,Y,Z,Z] HT_ ?_; refine tk_ (i := 5) (N := some 25) #[Z,Y,Y,Y,Z,Y,Z,Z,Y,Y,Y,Z,Z] HT_ HW_ hHeld ?_; refine join_ (σ := Value × Value × Value) 3 #[Y,Y,Y,Y,Y,Y,Y,Z,Y,Y,Y,Z,Z] (fun s_ => [(20, s_.1), (24, s_.2.1), (26, s_.2.2)]) (fun s_ w' => (w'.cell? ⟨gb128, 0, none⟩ = some (.int .i64 a1_0) ∧ w'.cell? ⟨gb128, 1, none⟩ = some (.int .i64 a1_1)) ∧ (Kd.R k49 49 w' w.heap.size (fun k_ => some k_ ≠ (s_.2.2 : Value).ownBlock ∧ k_ ≠ gb128) s_.2.1 y161) ∧ (Kd.R k49 49 w' w.heap.size (fun k_ => some k_ ≠ (s_.2.1 : Value).ownBlock ∧ k_ ≠ gb128) s_.2.2 y164) ∧ (w'.heap[gb128]? = some (.cells #[.int .i64 a1_0, .int .i64 a1_1] 49 (0, 0))) ∧ (Below w.heap.size w w')) ?_ ?_; rotate_left
         ·intro hCont
          refine two_ (i := 0) (j := 6) (Ni := some 20) (Nj := some 26) #[Y,Y,Y,Y,Z,Y,Z,Z,Y,Y,Y,Z,Z] #[Z,Y,Y,Y,Z,Y,Y,Z,Y,Y,Y,Z,Z] rfl rfl rfl rfl (two_of HT_.out (by kernel_rfl)) (by decide) (by decide) (fun K hK => ?_) (fun K hK => ?_)
          ·skip
           refine Kd.R_lit_step k49 _ 49 ?hg (N := 20) ?hd (xs := ([] : List (S49))) (inner := []) (ok := fun _ => True) (okp := fun _ => True) ?hr ?hp (fun _ hk => hk) trivial (Below.refl _ _) (Nat.le_refl _) (by simp) ?_; (case hd => rfl); (case hg => rfl); (case hr => (go_simp; done)); (case hp => exact (Reps.none _ _)); intro v155 w42 ho43 hb hg_ hnew_; clear hg_ hnew_
           (rw [← Ny154.out] at ho43)
           have n0_ := ak (Kd.R_lower (Kd.R_newB ho43 (g := gb128) (o := .cells #[.int .i64 a1_0, .int .i64 a1_1] 49 (0, 0)) (uq BK128)) (below_size bs)); have n1_ := ak (blk_below (g := gb128) (o := .cells #[.int .i64 a1_0, .int .i64 a1_1] 49 (0, 0)) (uq BK128) hb); have n2_ := ak (below_step bs hb); clear BK128; clear HB; have HO156 := n0_; have BK128 := n1_; have HB := n2_; clear n0_ n1_ n2_; clear hb ho43; refine hK.out _ _ ⟨(blk_cell BK128.out 0).trans rfl, (blk_cell BK128.out 1).trans rfl⟩ (fun hHeld => ?_); clear hK K; refine norm_ (a' := ?_) ?_ ?_; rotate_left
           ·show Act.put _ (some 20) _ = _
            simp only [Act.put, sA, sZ, sS, i64_w, i32_w]
            rfl
           refine two_ (i := 4) (j := 6) (Ni := some 24) (Nj := some 26) #[Y,Y,Y,Y,Y,Y,Z,Z,Y,Y,Y,Z,Z] #[Y,Y,Y,Y,Z,Y,Y,Z,Y,Y,Y,Z,Z] rfl rfl rfl rfl (two_of HT_.out (by kernel_rfl)) (by decide) (by decide) (fun K hK => ?_) (fun K hK => ?_)
           ·skip
            refine Kd.R_append_rows_step k49 (w0 := w) w.heap.size (by rfl) (.tmp 20) (.tmp 23) 22 49 (.agg #[(.int .i64 0), (.int .i64 0)]) 16 rfl Try.underlying22 info49 rfl (by decide) (by omega) v155 y154 y157 _ _ _ (fun k_ => k_ ≠ gb128) (fun _ => False) rfl rfl ?aO ?aR (fun _ _ h => h) (fun _ h => h.elim) ?aF ?aB ?aS ?aL ?_
            (case aR => exact cq (Kd.C_below HR160.out HB.out))
            (case aB => exact bs)
            (case aF => exact (fun k_ hk => Kd.freshB (g := gb128) (o := .cells #[.int .i64 a1_0, .int .i64 a1_1] 49 (0, 0)) (uq BK128) k_ hk))
            (case aO => exact (by exact Kd.R_mono HO156.out (fun _ hk => hk.2)))
            (case aS => exact (below_size bs))
            (case aL => have := LMc33.out; omega)
            intro v162 w44 ho hb hg hat; rw [← Ny161.out] at ho; have n0_ := ak (blk_grown (g := gb128) (o := .cells #[.int .i64 a1_0, .int .i64 a1_1] 49 (0, 0)) (uq BK128) hg (Kd.R_away HO156.out (fun _ hk => hk.2))); have n1_ := ak (hb); have n2_ := ak (ho); clear BK128; clear HB; clear HO156; have BK128 := n0_; have HB := n1_; have HO163 := n2_; clear n0_ n1_ n2_; clear ho hb hg hat; refine hK.out _ _ ⟨(blk_cell BK128.out 0).trans rfl, (blk_cell BK128.out 1).trans rfl⟩ (fun hHeld => ?_); clear hK K; refine norm_ (a' := ?_) ?_ ?_; rotate_left
            ·show Act.put _ (some 24) _ = _
             simp only [Act.put, sA, sZ, sS, i64_w, i32_w]
             rfl
            refine one_ (i := 6) (N := some 26) #[Y,Y,Y,Y,Y,Y,Y,Z,Y,Y,Y,Z,Z] rfl rfl (one_of HT_.out (by kernel_rfl)) (by decide) (fun K hK => ?_); refine Kd.R_lit_step k49 _ 49 ?hg (N := 26) ?hd (xs := ([(⟨a1_0, a1_1⟩ : S49)] : List (S49))) (inner := [.int .i64 a1_0, .int .i64 a1_1]) (ok := fun _ => True) (okp := fun _ => True) ?hr ?hp (fun _ hk => hk) trivial (Below.refl _ _) (Nat.le_refl _) (by simp) ?_; (case hd => rfl); (case hg => rfl); (case hr => (go_simp; done)); (case hp => exact (Reps.c2 (show Kd.M k49 _ _ _ (⟨a1_0, a1_1⟩ : S49) [.int .i64 a1_0, .int .i64 a1_1] from (k49_mkM _ _ _ (⟨a1_0, a1_1⟩ : S49) )) (Reps.none _ _))); intro v165 w45 ho46 hb hg_ hnew_; clear hg_ hnew_
            (rw [← Ny164.out] at ho46)
            have n0_ := ak (Kd.R_elder' (rq HO163) (Kd.R_base ho46) hb); have n1_ := ak (Kd.R_lower (Kd.R_newB (Kd.R_new' ho46 (Kd.R_lt (rq HO163))) (g := gb128) (o := .cells #[.int .i64 a1_0, .int .i64 a1_1] 49 (0, 0)) (uq BK128)) (below_size bs)); have n2_ := ak (blk_below (g := gb128) (o := .cells #[.int .i64 a1_0, .int .i64 a1_1] 49 (0, 0)) (uq BK128) hb); have n3_ := ak (below_step bs hb); clear HO163; clear BK128; clear HB; have HO163 := n0_; have HO166 := n1_; have BK128 := n2_; have HB := n3_; clear n0_ n1_ n2_ n3_; clear hb ho46; refine hK.out _ _ ⟨(blk_cell BK128.out 0).trans rfl, (blk_cell BK128.out 1).trans rfl⟩ (fun hHeld => ?_); clear hK K; refine norm_ (a' := ?_) ?_ ?_; rotate_left
            ·show Act.put _ (some 26) _ = _
             simp only [Act.put, sA, sZ, sS, i64_w, i32_w]
             rfl
            exact norm_ (by simp only [putAll, Act.put, List.setIfInBounds_toArray, List.set_cons_zero, List.set_cons_succ]) (hCont (v155, v162, v165) _ ⟨hHeld, (by exact Kd.R_mono HO163.out (fun _ hk => ⟨hk.2, hk.1⟩)), (by exact Kd.R_mono HO166.out (fun _ hk => ⟨hk.1.2, hk.2⟩)), (uq BK128), bs⟩)
           ·skip
            refine Kd.R_lit_step k49 _ 49 ?hg (N := 26) ?hd (xs := ([(⟨a1_0, a1_1⟩ : S49)] : List (S49))) (inner := [.int .i64 a1_0, .int .i64 a1_1]) (ok := fun _ => True) (okp := fun _ => True) ?hr ?hp (fun _ hk => hk) trivial (Below.refl _ _) (Nat.le_refl _) (by simp) ?_; (case hd => rfl); (case hg => rfl); (case hr => (go_simp; done)); (case hp => exact (Reps.c2 (show Kd.M k49 _ _ _ (⟨a1_0, a1_1⟩ : S49) [.int .i64 a1_0, .int .i64 a1_1] from (k49_mkM _ _ _ (⟨a1_0, a1_1⟩ : S49) )) (Reps.none _ _))); intro v165 w44 ho45 hb hg_ hnew_; clear hg_ hnew_
            (rw [← Ny164.out] at ho45)
            have n0_ := ak (Kd.R_elder' (rq HO156) (Kd.R_base ho45) hb); have n1_ := ak (Kd.R_lower (Kd.R_newB (Kd.R_new' ho45 (Kd.R_lt (rq HO156))) (g := gb128) (o := .cells #[.int .i64 a1_0, .int .i64 a1_1] 49 (0, 0)) (uq BK128)) (below_size bs)); have n2_ := ak (blk_below (g := gb128) (o := .cells #[.int .i64 a1_0, .int .i64 a1_1] 49 (0, 0)) (uq BK128) hb); have n3_ := ak (below_step bs hb); clear HO156; clear BK128; clear HB; have HO156 := n0_; have HO166 := n1_; have BK128 := n2_; have HB := n3_; clear n0_ n1_ n2_ n3_; clear hb ho45; refine hK.out _ _ ⟨(blk_cell BK128.out 0).trans rfl, (blk_cell BK128.out 1).trans rfl⟩ (fun hHeld => ?_); clear hK K; refine norm_ (a' := ?_) ?_ ?_; rotate_left
            ·show Act.put _ (some 26) _ = _
             simp only [Act.put, sA, sZ, sS, i64_w, i32_w]
             rfl
            refine one_ (i := 4) (N := some 24) #[Y,Y,Y,Y,Y,Y,Y,Z,Y,Y,Y,Z,Z] rfl rfl (one_of HT_.out (by kernel_rfl)) (by decide) (fun K hK => ?_); refine Kd.R_append_rows_step k49 (w0 := w) w.heap.size (by rfl) (.tmp 20) (.tmp 23) 22 49 (.agg #[(.int .i64 0), (.int .i64 0)]) 16 rfl Try.underlying22 info49 rfl (by decide) (by omega) v155 y154 y157 _ _ _ (fun k_ => some k_ ≠ (v165 : Value).ownBlock ∧ k_ ≠ gb128) (fun _ => False) rfl rfl ?aO ?aR (fun _ _ h => h) (fun _ h => h.elim) ?aF ?aB ?aS ?aL ?_
            (case aR => exact cq (Kd.C_below HR160.out HB.out))
            (case aB => exact bs)
            (case aF => exact (fun k_ hk => ⟨Kd.fresh' (Kd.R_lt (rq HO166)) k_ hk, Kd.freshB (g := gb128) (o := .cells #[.int .i64 a1_0, .int .i64 a1_1] 49 (0, 0)) (uq BK128) k_ hk⟩))
            (case aO => exact (by exact Kd.R_mono HO156.out (fun _ hk => ⟨hk.2, hk.1.2⟩)))
            (case aS => exact (below_size bs))
            (case aL => have := LMc33.out; omega)
            intro v162 w46 ho hb hg hat; rw [← Ny161.out] at ho; have n0_ := ak (blk_grown (g := gb128) (o := .cells #[.int .i64 a1_0, .int .i64 a1_1] 49 (0, 0)) (uq BK128) hg (Kd.R_away HO156.out (fun _ hk => hk.1.2))); have n1_ := ak (Kd.R_after (ok := (fun k_ => k_ ≠ gb128)) (by exact Kd.R_mono HO166.out (fun _ hk => ⟨hk.2, hk.1.2⟩)) hg hat); have n2_ := ak (hb); have n3_ := ak (ho); clear BK128; clear HO166; clear HB; clear HO156; have BK128 := n0_; have HO166 := n1_; have HB := n2_; have HO163 := n3_; clear n0_ n1_ n2_ n3_; clear ho hb hg hat; refine hK.out _ _ ⟨(blk_cell BK128.out 0).trans rfl, (blk_cell BK128.out 1).trans rfl⟩ (fun hHeld => ?_); clear hK K; refine norm_ (a' := ?_) ?_ ?_; rotate_left
            ·show Act.put _ (some 24) _ = _
             simp only [Act.put, sA, sZ, sS, i64_w, i32_w]
             rfl
            exact norm_ (by simp only [putAll, Act.put, List.setIfInBounds_toArray, List.set_cons_zero, List.set_cons_succ]) (hCont (v155, v162, v165) _ ⟨hHeld, (rq HO163), (by exact Kd.R_mono HO166.out (fun _ hk => ⟨hk.2, hk.1⟩)), (uq BK128), bs⟩)
          ·skip
           refine Kd.R_lit_step k49 _ 49 ?hg (N := 26) ?hd (xs := ([(⟨a1_0, a1_1⟩ : S49)] : List (S49))) (inner := [.int .i64 a1_0, .int .i64 a1_1]) (ok := fun _ => True) (okp := fun _ => True) ?hr ?hp (fun _ hk => hk) trivial (Below.refl _ _) (Nat.le_refl _) (by simp) ?_; (case hd => rfl); (case hg => rfl); (case hr => (go_simp; done)); (case hp => exact (Reps.c2 (show Kd.M k49 _ _ _ (⟨a1_0, a1_1⟩ : S49) [.int .i64 a1_0, .int .i64 a1_1] from (k49_mkM _ _ _ (⟨a1_0, a1_1⟩ : S49) )) (Reps.none _ _))); intro v165 w42 ho43 hb hg_ hnew_; clear hg_ hnew_
           (rw [← Ny164.out] at ho43)
           have n0_ := ak (Kd.R_lower (Kd.R_newB ho43 (g := gb128) (o := .cells #[.int .i64 a1_0, .int .i64 a1_1] 49 (0, 0)) (uq BK128)) (below_size bs)); have n1_ := ak (blk_below (g := gb128) (o := .cells #[.int .i64 a1_0, .int .i64 a1_1] 49 (0, 0)) (uq BK128) hb); have n2_ := ak (below_step bs hb); clear BK128; clear HB; have HO166 := n0_; have BK128 := n1_; have HB := n2_; clear n0_ n1_ n2_; clear hb ho43; refine hK.out _ _ ⟨(blk_cell BK128.out 0).trans rfl, (blk_cell BK128.out 1).trans rfl⟩ (fun hHeld => ?_); clear hK K; refine norm_ (a' := ?_) ?_ ?_; rotate_left
           ·show Act.put _ (some 26) _ = _
            simp only [Act.put, sA, sZ, sS, i64_w, i32_w]
            rfl
           refine one_ (i := 0) (N := some 20) #[Y,Y,Y,Y,Z,Y,Y,Z,Y,Y,Y,Z,Z] rfl rfl (one_of HT_.out (by kernel_rfl)) (by decide) (fun K hK => ?_); refine Kd.R_lit_step k49 _ 49 ?hg (N := 20) ?hd (xs := ([] : List (S49))) (inner := []) (ok := fun _ => True) (okp := fun _ => True) ?hr ?hp (fun _ hk => hk) trivial (Below.refl _ _) (Nat.le_refl _) (by simp) ?_; (case hd => rfl); (case hg => rfl); (case hr => (go_simp; done)); (case hp => exact (Reps.none _ _)); intro v155 w44 ho45 hb hg_ hnew_; clear hg_ hnew_
           (rw [← Ny154.out] at ho45)
           have n0_ := ak (Kd.R_elder' (rq HO166) (Kd.R_base ho45) hb); have n1_ := ak (Kd.R_lower (Kd.R_newB (Kd.R_new' ho45 (Kd.R_lt (rq HO166))) (g := gb128) (o := .cells #[.int .i64 a1_0, .int .i64 a1_1] 49 (0, 0)) (uq BK128)) (below_size bs)); have n2_ := ak (blk_below (g := gb128) (o := .cells #[.int .i64 a1_0, .int .i64 a1_1] 49 (0, 0)) (uq BK128) hb); have n3_ := ak (below_step bs hb); clear HO166; clear BK128; clear HB; have HO166 := n0_; have HO156 := n1_; have BK128 := n2_; have HB := n3_; clear n0_ n1_ n2_ n3_; clear hb ho45; refine hK.out _ _ ⟨(blk_cell BK128.out 0).trans rfl, (blk_cell BK128.out 1).trans rfl⟩ (fun hHeld => ?_); clear hK K; refine norm_ (a' := ?_) ?_ ?_; rotate_left
           ·show Act.put _ (some 20) _ = _
            simp only [Act.put, sA, sZ, sS, i64_w, i32_w]
            rfl
           refine one_ (i := 4) (N := some 24) #[Y,Y,Y,Y,Y,Y,Y,Z,Y,Y,Y,Z,Z] rfl rfl (one_of HT_.out (by kernel_rfl)) (by decide) (fun K hK => ?_); refine Kd.R_append_rows_step k49 (w0 := w) w.heap.size (by rfl) (.tmp 20) (.tmp 23) 22 49 (.agg #[(.int .i64 0), (.int .i64 0)]) 16 rfl Try.underlying22 info49 rfl (by decide) (by omega) v155 y154 y157 _ _ _ (fun k_ => some k_ ≠ (v165 : Value).ownBlock ∧ k_ ≠ gb128) (fun _ => False) rfl rfl ?aO ?aR (fun _ _ h => h) (fun _ h => h.elim) ?aF ?aB ?aS ?aL ?_
           (case aR => exact cq (Kd.C_below HR160.out HB.out))
           (case aB => exact bs)
           (case aF => exact (fun k_ hk => ⟨Kd.fresh' (Kd.R_lt (rq HO166)) k_ hk, Kd.freshB (g := gb128) (o := .cells #[.int .i64 a1_0, .int .i64 a1_1] 49 (0, 0)) (uq BK128) k_ hk⟩))
           (case aO => exact (by exact Kd.R_mono HO156.out (fun _ hk => ⟨hk.1.2, hk.2⟩)))
           (case aS => exact (below_size bs))
           (case aL => have := LMc33.out; omega)
           intro v162 w46 ho hb hg hat; rw [← Ny161.out] at ho; have n0_ := ak (blk_grown (g := gb128) (o := .cells #[.int .i64 a1_0, .int .i64 a1_1] 49 (0, 0)) (uq BK128) hg (Kd.R_away HO156.out (fun _ hk => hk.2))); have n1_ := ak (Kd.R_after (ok := (fun k_ => k_ ≠ gb128)) (by exact Kd.R_mono HO166.out (fun _ hk => ⟨hk.1.2, hk.2⟩)) hg hat); have n2_ := ak (hb); have n3_ := ak (ho); clear BK128; clear HO166; clear HB; clear HO156; have BK128 := n0_; have HO166 := n1_; have HB := n2_; have HO163 := n3_; clear n0_ n1_ n2_ n3_; clear ho hb hg hat; refine hK.out _ _ ⟨(blk_cell BK128.out 0).trans rfl, (blk_cell BK128.out 1).trans rfl⟩ (fun hHeld => ?_); clear hK K; refine norm_ (a' := ?_) ?_ ?_; rotate_left
           ·show Act.put _ (some 24) _ = _
            simp only [Act.put, sA, sZ, sS, i64_w, i32_w]
            rfl
           exact norm_ (by simp only [putAll, Act.put, List.setIfInBounds_toArray, List.set_cons_zero, List.set_cons_succ]) (hCont (v155, v162, v165) _ ⟨hHeld, (rq HO163), (by exact Kd.R_mono HO166.out (fun _ hk => ⟨hk.2, hk.1⟩)), (uq BK128), bs⟩)
         rintro ⟨v155, v162, v165⟩ w47 ⟨hS_, h0_, h1_, h2_, h3_⟩
         have n0_ : Aside0 (Kd.R k49 49 w47 w.heap.size (fun k_ => some k_ ≠ (v165 : Value).ownBlock ∧ k_ ≠ gb128) v162 y161) := ⟨h0_⟩; have n1_ : Aside0 (Kd.R k49 49 w47 w.heap.size (fun k_ => some k_ ≠ (v162 : Value).ownBlock ∧ k_ ≠ gb128) v165 y164) := ⟨h1_⟩; have n2_ : Aside0 (w47.heap[gb128]? = some (.cells #[.int .i64 a1_0, .int .i64 a1_1] 49 (0, 0))) := ⟨h2_⟩; have n3_ : Aside0 (Below w.heap.size w w47) := ⟨h3_⟩; clear BK128; clear HB; clear h0_ h1_ h2_ h3_; have HO163 := n0_; have HO166 := n1_; have BK128 := n2_; have HB := n3_; clear n0_ n1_ n2_ n3_; have hHeld : w47.cell? ⟨gb128, 0, none⟩ = some (.int .i64 a1_0) ∧ w47.cell? ⟨gb128, 1, none⟩ = some (.int .i64 a1_1) := hS_; obtain ⟨Ao49, co49, eo49⟩ := Kd.R_slice HO166.out
         (subst eo49)
         refine norm_ (a' := ?_) ?_ ?_; rotate_left
         ·simp only [putAll, Act.put, List.setIfInBounds_toArray, List.set_cons_zero, List.set_cons_succ]
          rfl
         refine one_ (i := 7) (N := some 27) #[Y,Y,Y,Y,Y,Y,Y,Y,Y,Y,Y,Z,Z] rfl rfl (one_of HT_.out (by kernel_rfl)) (by decide) (fun K hK => ?_); refine Kd.R_append_rows_step k49 (w0 := w) w.heap.size (by rfl) (.tmp 24) (.tmp 26) 22 49 (.agg #[(.int .i64 0), (.int .i64 0)]) 16 rfl Try.underlying22 info49 rfl (by decide) (by omega) v162 y161 y164 _ _ _ (fun k_ => some k_ ≠ (.slice Ao49 y164.length co49 : Value).ownBlock ∧ k_ ≠ gb128) (fun _ => False) rfl rfl ?aO ?aR (fun _ _ h => h) (fun _ h => h.elim) ?aF ?aB ?aS ?aL ?_
         (case aR => exact cq (Kd.R_reads' HO166.out).2.2)
         (case aB => exact bs)
         (case aF => exact (fun k_ hk => ⟨Kd.fresh' (Kd.R_lt (rq HO166)) k_ hk, Kd.freshB (g := gb128) (o := .cells #[.int .i64 a1_0, .int .i64 a1_1] 49 (0, 0)) (uq BK128) k_ hk⟩))
         (case aO => exact (rq HO163))
         (case aS => exact (below_size bs))
         (case aL => have := LMc34.out; omega)
         intro v168 w48 ho hb hg hat; rw [← Ny167.out] at ho; have n0_ := ak (blk_grown (g := gb128) (o := .cells #[.int .i64 a1_0, .int .i64 a1_1] 49 (0, 0)) (uq BK128) hg (Kd.R_away HO163.out (fun _ hk => hk.2))); have n1_ := ak (Kd.R_after (ok := (fun k_ => k_ ≠ gb128)) (by exact Kd.R_mono HO166.out (fun _ hk => ⟨hk.2, hk.1⟩)) hg hat); have n2_ := ak (hb); have n3_ := ak (ho); clear BK128; clear HO166; clear HB; clear HO163; have BK128 := n0_; have HO166 := n1_; have HB := n2_; have HO169 := n3_; clear n0_ n1_ n2_ n3_; clear ho hb hg hat; refine hK.out _ _ ⟨(blk_cell BK128.out 0).trans rfl, (blk_cell BK128.out 1).trans rfl⟩ (fun hHeld => ?_); clear hK K; refine norm_ (a' := ?_) ?_ ?_; rotate_left
         ·show Act.put _ (some 27) _ = _
          simp only [Act.put, sA, sZ, sS, i64_w, i32_w]
          rfl
         refine one_ (i := 11) (N := some 31) #[Y,Y,Y,Y,Y,Y,Y,Y,Y,Y,Y,Y,Z] rfl rfl (one_of HT_.out (by kernel_rfl)) (by decide) (fun K hK => ?_); refine Kd.R_append_rows_step k49 (w0 := w) w.heap.size (by rfl) (.tmp 27) (.tmp 30) 22 49 (.agg #[(.int .i64 0), (.int .i64 0)]) 16 rfl Try.underlying22 info49 rfl (by decide) (by omega) v168 y167 y170 _ _ _ (fun k_ => some k_ ≠ (.slice Ao49 y164.length co49 : Value).ownBlock ∧ k_ ≠ gb128) (fun _ => False) rfl rfl ?aO ?aR (fun _ _ h => h) (fun _ h => h.elim) ?aF ?aB ?aS ?aL ?_
         (case aR => exact cq (Kd.C_below HR173.out HB.out))
         (case aB => exact bs)
         (case aF => exact (fun k_ hk => ⟨Kd.fresh' (Kd.R_lt (rq HO166)) k_ hk, Kd.freshB (g := gb128) (o := .cells #[.int .i64 a1_0, .int .i64 a1_1] 49 (0, 0)) (uq BK128) k_ hk⟩))
         (case aO => exact (rq HO169))
         (case aS => exact (below_size bs))
         (case aL => have := LMc37.out; omega)
         intro v175 w50 ho hb hg hat; rw [← Ny174.out] at ho; have n0_ := ak (blk_grown (g := gb128) (o := .cells #[.int .i64 a1_0, .int .i64 a1_1] 49 (0, 0)) (uq BK128) hg (Kd.R_away HO169.out (fun _ hk => hk.2))); have n1_ := ak (Kd.R_after (ok := (fun k_ => k_ ≠ gb128)) (rq HO166) hg hat); have n2_ := ak (hb); have n3_ := ak (ho); clear BK128; clear HO166; clear HB; clear HO169; have BK128 := n0_; have HO166 := n1_; have HB := n2_; have HO176 := n3_; clear n0_ n1_ n2_ n3_; clear ho hb hg hat; refine hK.out _ _ ⟨(blk_cell BK128.out 0).trans rfl, (blk_cell BK128.out 1).trans rfl⟩ (fun hHeld => ?_); clear hK K; refine norm_ (a' := ?_) ?_ ?_; rotate_left
         ·show Act.put _ (some 31) _ = _
          simp only [Act.put, sA, sZ, sS, i64_w, i32_w]
          rfl
         refine pq_ (i := 12) (N := some 4) #[Y,Y,Y,Y,Y,Y,Y,Y,Y,Y,Y,Y,Y] HT_ ?_; refine done_ (done_of HT_.out (by kernel_rfl)) ?_; (try go_wp2); go_ret; exact ⟨_, eq_, by exact Kd.R_mono HO176.out (fun _ hk => trivial), bs⟩
        ·rw [if_neg c37] at H
         exact absurd H (by simp)
       ·rw [if_neg c34] at H
        exact absurd H (by simp)
      ·rw [if_neg c33] at H
       exact absurd H (by simp)
     ·rw [if_neg c32] at H
      exact absurd H (by simp)
    ·rw [if_neg c31] at H
     exact absurd H (by simp)

end Go.Proofs.Ytckhmeadflafaaa.XFb
