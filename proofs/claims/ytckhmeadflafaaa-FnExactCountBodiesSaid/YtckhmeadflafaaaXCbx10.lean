/- Functions of the program as plain Lean functions, each with the proof that the machine's call does what it says: written by a program of this session out of the translation. -/
import Derived.Test.YtckhmeadflafaaaXCbx0
import Derived.Test.YtckhmeadflafaaaXCbx6
namespace Go.Proofs.Ytckhmeadflafaaa.XCb
open Go.RowKit Go.Proofs.YtckhmeadflafaaaW.PrintWords Go.Proofs.YtckhmeadflafaaaW.PrintLast Go.Proofs.YtckhmeadflafaaaW.PrintMore
attribute [local go_sem] max2_int min2_int max_two min_two max_three min_three max_four min_four   -- for this text's walks alone
set_option linter.unusedVariables false
set_option linter.unusedSimpArgs false

/-! ### spec_l8Put: function 91 -/
def spec_l8Put.l0 : Nat → List (S49) → Int → Int → Int → Option ((List (S49)))
 | 0, _, _, _, _ => none
 | k + 1, x0, x5, x189000, x189001 => if x5 < (x0.length : Int) then (if 0 ≤ x5 then ((spec_l8Before.f ((rd_T49 x0 x5).f0) ((rd_T49 x0 x5).f1) x189000 x189001).bind fun t190 => (if t190 = true then (spec_l8Put.l0 k x0 (wrap64 (x5 + 1)) x189000 x189001) else ((some (([] : List (S49)) : List (S49))).bind fun y191 => (if x5 ≤ (x0.length : Int) then ((some (x0.take (x5 : Int).toNat : List (S49))).bind fun y194 => (if y191.length + y194.length < 8796093022208 then ((some (y191 ++ y194 : List (S49))).bind fun y198 => ((some (([(⟨x189000, x189001⟩ : S49)] : List (S49)) : List (S49))).bind fun y201 => (if y198.length + y201.length < 8796093022208 then ((some (y198 ++ y201 : List (S49))).bind fun y204 => ((some (x0.drop (x5 : Int).toNat : List (S49))).bind fun y207 => (if y204.length + y207.length < 8796093022208 then (some (y204 ++ y207)) else (none)))) else (none)))) else (none))) else (none))))) else (none)) else ((some (([] : List (S49)) : List (S49))).bind fun y214 => (if 0 ≤ x5 then (if x5 ≤ (x0.length : Int) then ((some (x0.take (x5 : Int).toNat : List (S49))).bind fun y217 => (if y214.length + y217.length < 8796093022208 then ((some (y214 ++ y217 : List (S49))).bind fun y221 => ((some (([(⟨x189000, x189001⟩ : S49)] : List (S49)) : List (S49))).bind fun y224 => (if y221.length + y224.length < 8796093022208 then ((some (y221 ++ y224 : List (S49))).bind fun y227 => ((some (x0.drop (x5 : Int).toNat : List (S49))).bind fun y230 => (if y227.length + y230.length < 8796093022208 then (some (y227 ++ y230)) else (none)))) else (none)))) else (none))) else (none)) else (none)))
def spec_l8Put.f (k : Nat) (l0 : List (S49)) (a1_0 : Int) (a1_1 : Int) : Option ((List (S49))) := spec_l8Put.l0 k l0 0 a1_0 a1_1
theorem spec_l8Put.mono_l : ∀ k, (∀ y0 y1 y2 y3, LeO (spec_l8Put.l0 k y0 y1 y2 y3) (spec_l8Put.l0 (k + 1) y0 y1 y2 y3))
 | 0 => fun _ _ _ _ r h => by simp [spec_l8Put.l0] at h
 | k + 1 => by
  have ih0 := spec_l8Put.mono_l k
  ·intro y0 y1 y2 y3
   unfold spec_l8Put.l0
   repeat' first
   | (with_reducible exact ih0 _ _ _ _)
   | (with_reducible exact LeO.refl _)
   | (with_reducible exact LeO.none _)
   | (with_reducible refine LeO.ite ?_ ?_)
   | (with_reducible refine LeO.bind ?_ (fun _ => ?_))
theorem spec_l8Put.mono : ∀ a0 a1 a2 k, LeO (spec_l8Put.f k a0 a1 a2) (spec_l8Put.f (k + 1) a0 a1 a2) := by
 intro a0 a1 a2 k; have ih0 := spec_l8Put.mono_l k
 unfold spec_l8Put.f
 repeat' first
   | (with_reducible exact ih0 _ _ _ _)
   | (with_reducible exact LeO.refl _)
   | (with_reducible exact LeO.none _)
   | (with_reducible refine LeO.ite ?_ ?_)
   | (with_reducible refine LeO.bind ?_ (fun _ => ?_))
def spec_l8Put.T2 : Bool × List (List Nat × List Nat) := (true, [([], []), ([], []), ([1], [1]), ([0, 2], [0, 2]), ([3], [3]), ([4], [4]), ([4], [4]), ([5, 6, 4], [4, 5, 6]), ([7, 4], [4, 7]), ([4], [4]), ([8, 9, 4, 4], [4, 8, 9]), ([4, 10], [4, 10])])
def spec_l8Put.B2 : List Nat := [0, 0, 2, 7, 15, 31, 31, 127, 255, 31, 1023, 2047]
theorem spec_l8Put.tab2 : rtab .any (opsOf Try.f91 2) = spec_l8Put.T2 := by kernel_rfl
theorem spec_l8Put.bits2 : waitsOk spec_l8Put.T2.2 spec_l8Put.B2 = true := by kernel_rfl
def spec_l8Put.T4 : Bool × List (List Nat × List Nat) := (true, [([], []), ([], []), ([], []), ([1, 2], [1, 2]), ([0, 3], [0, 3]), ([], []), ([5], [5]), ([4, 6, 4], [4, 6]), ([], []), ([], []), ([8, 9], [8, 9]), ([7, 10, 7], [7, 10]), ([11, 11, 0, 1, 2, 3, 4, 5, 6, 7, 8, 9, 10, 11], [11])])
def spec_l8Put.B4 : List Nat := [0, 0, 0, 6, 15, 0, 32, 127, 0, 0, 768, 2047, 4095]
theorem spec_l8Put.tab4 : rtab .any (opsOf Try.f91 4) = spec_l8Put.T4 := by kernel_rfl
theorem spec_l8Put.bits4 : waitsOk spec_l8Put.T4.2 spec_l8Put.B4 = true := by kernel_rfl
set_option maxHeartbeats 8000000 in
set_option maxRecDepth 100000 in
theorem spec_l8Put.calls (k : Nat) (A0 : Option Addr) (c0 : Nat) (l0 : List (S49)) (a1_0 : Int) (a1_1 : Int) (r : List (S49)) (w : World) (hr0 : Kd.C k49 w A0 l0.length l0) (hc0 : l0.length ≤ c0) (h : spec_l8Put.f k l0 a1_0 a1_1 = some r) :
  Calls Try.prog 91 #[.slice A0 l0.length c0, .agg #[.int .i64 a1_0, .int .i64 a1_1]] w fun e w' => ∃ v0_ : Value, e = .returned (v0_) ∧ Kd.R k49 49 w' w.heap.size (fun _ => True) v0_ r ∧ Below w.heap.size w w' := by
 have hu49 := Try.underlying49; have HR0 := ak hr0; have HC0 := ak hc0; clear hr0 hc0; have HB := ak (Below.refl w.heap.size w); have H : (spec_l8Put.l0 k l0 0 a1_0 a1_1) = some r := h; clear h; have H' := ak H; clear H
 go_enter Try.func91, Try.ntmps91
 go_wp2_with (first | ((with_reducible refine gate_dst (N := 3) rfl ?_); refine box_event ?hg (N := 3) ?hd (cs := #[.int .i64 a1_0, .int .i64 a1_1]) (t := 49) ?hr ?_; (case hd => rfl); (case hg => rfl); (case hr => first | (go_simp; done) | (go_simp; rfl)); intro gb188 hg w3 hbox hb; have n0_ := ak (below_step bq hb); have n1_ := ak (hbox); have n2_ := ak ((by rw [hg]; exact (below_size bq) : w.heap.size ≤ gb188)); have n3_ := ak ((by rw [hg]; exact (below_size bq) : w.heap.size ≤ gb188)); clear HB; have HB := n0_; have BK188 := n1_; have GW188 := n2_; have GE188 := n3_; clear n0_ n1_ n2_ n3_; clear hb hbox hg))
 (try simp only [Act.put, sA, sZ, sS])
 go_loopg [5] k (fun kq v5 w' => ∃ (x5_1 : Int), v5 = .int .i64 x5_1 ∧ Aside0 (spec_l8Put.l0 kq l0 x5_1 a1_0 a1_1 = some r) ∧ Aside0 (kq ≤ k) ∧ Aside0 (w'.heap[gb188]? = some (.cells #[.int .i64 a1_0, .int .i64 a1_1] 49 (0, 0))) ∧ Aside0 (Below w.heap.size w w'))
 case atStart => exact ⟨(0), sq, H', ⟨Nat.le_refl _⟩, ⟨by (with_reducible repeat (first | refine blk_drewN ?_ _ | refine blk_drew ?_ | refine blk_alloc ?_ _)); exact BK188.out⟩, ⟨bs⟩⟩
 case round =>
  clear H'; (try clear p2); obtain ⟨x5_1, rfl, HA, HK1, BK188, HB⟩ := hrel
  cases gk with
  | zero => exact absurd HA.out (by simp [spec_l8Put.l0])
  | succ k1 =>
   have H := HA.out; clear HA; simp only [spec_l8Put.l0] at H
   by_cases c4 : x5_1 < (l0.length : Int)
   ·rw [if_pos c4] at H
    have c4b0 := decide_eq_true c4; clear c4
    by_cases c5 : 0 ≤ x5_1
    ·rw [if_pos c5] at H
     have c5b0 := decide_eq_true c5; clear c5; obtain ⟨t190, A60, H⟩ := Option.bind_eq_some_iff.mp H
     (try dsimp only at H)
     have A6 := ak A60; clear A60
     by_cases c7 : t190 = true
     ·subst c7
      rw [if_pos rfl] at H; have H' := ak H; clear H; (try go_wp2); have n0_ := ak (blk_drew BK188.out); have n1_ := ak (below_drew1 HB.out); clear BK188; clear HB; have BK188 := n0_; have HB := n1_; clear n0_ n1_; have p189 : 0 ≤ (x5_1 : Int) := dq; have q189 : x5_1 < (l0.length : Int) := dq; obtain ⟨ad189, e189, hx189_0, hx189_1⟩ := at_T49 HR0.out x5_1 p189 q189; have hw189_1 := hx189_1; have hw189_0 := hx189_0; cases e189; replace hx189_0 := hb_ HB hx189_0; replace hx189_1 := hb_ HB hx189_1; replace p189 := eq_true p189; replace q189 := eq_true q189; refine start_ (n := 12) (S := fun w' => w'.cell? ⟨gb188, 0, none⟩ = some (.int .i64 a1_0) ∧ w'.cell? ⟨gb188, 1, none⟩ = some (.int .i64 a1_1) ∧ w'.cell? (ad189.add ((x5_1).toNat * 2)) = some (.int .i64 ((rd_T49 l0 x5_1).f0)) ∧ w'.cell? ⟨(ad189.add ((x5_1).toNat * 2)).block, (ad189.add ((x5_1).toNat * 2)).off + 1, none⟩ = some (.int .i64 ((rd_T49 l0 x5_1).f1))) (ds := []) #[Z,Z,Z,Z,Z,Z,Z,Z,Z,Z,Z,Z] (by kernel_rfl) rfl rfl ⟨(blk_cell BK188.out 0).trans rfl, (blk_cell BK188.out 1).trans rfl, ((hb_ HB hw189_0).trans rfl), ((hb_ HB hw189_1).trans rfl)⟩ (fun hHeld => ?_); refine with_tabW spec_l8Put.tab2 spec_l8Put.bits2 (fun HT_ HW_ => ?_)
      generalize wr.drew = w8 at BK188 HB hx189_0 hx189_1 hHeld ⊢
      refine pq_ (i := 0) (N := some 6) #[Y,Z,Z,Z,Z,Z,Z,Z,Z,Z,Z,Z] HT_ ?_; refine pq_ (i := 1) (N := some 7) #[Y,Y,Z,Z,Z,Z,Z,Z,Z,Z,Z,Z] HT_ ?_; refine pq_ (i := 2) (N := some 8) #[Y,Y,Y,Z,Z,Z,Z,Z,Z,Z,Z,Z] HT_ ?_; refine pq_ (i := 3) (N := some 9) #[Y,Y,Y,Y,Z,Z,Z,Z,Z,Z,Z,Z] HT_ ?_; refine pq_ (i := 4) (N := some 10) #[Y,Y,Y,Y,Y,Z,Z,Z,Z,Z,Z,Z] HT_ ?_; refine pq_ (i := 5) (N := some 11) #[Y,Y,Y,Y,Y,Y,Z,Z,Z,Z,Z,Z] HT_ ?_; refine pq_ (i := 6) (N := some 12) #[Y,Y,Y,Y,Y,Y,Y,Z,Z,Z,Z,Z] HT_ ?_; refine pq_ (i := 7) (N := some 13) #[Y,Y,Y,Y,Y,Y,Y,Y,Z,Z,Z,Z] HT_ ?_; refine tk_ (i := 8) (N := some 14) #[Y,Y,Y,Y,Y,Y,Y,Y,Y,Z,Z,Z] HT_ HW_ hHeld ?_; refine tk_ (i := 9) (N := some 15) #[Y,Y,Y,Y,Y,Y,Y,Y,Y,Y,Z,Z] HT_ HW_ hHeld ?_; refine one_ (i := 10) (N := some 16) #[Y,Y,Y,Y,Y,Y,Y,Y,Y,Y,Y,Z] rfl rfl (one_of HT_.out (by kernel_rfl)) (by decide) (fun K hK => ?_); refine goes_ Try.func106 (by kernel_rfl) rfl #[.agg #[.int .i64 ((rd_T49 l0 x5_1).f0), .int .i64 ((rd_T49 l0 x5_1).f1)], .agg #[.int .i64 a1_0, .int .i64 a1_1]] (by rfl) rfl rfl aq ?_
      with_reducible refine (spec_l8Before.calls ((rd_T49 l0 x5_1).f0) ((rd_T49 l0 x5_1).f1) a1_0 a1_1 true _ A6.out).mono ?_
      rintro e w9 ⟨rfl, hb⟩
      refine ⟨_, rfl, ?_⟩; have n0_ := ak (blk_below (g := gb188) (o := .cells #[.int .i64 a1_0, .int .i64 a1_1] 49 (0, 0)) (uq BK188) hb); have n1_ := ak (below_step bs hb); clear BK188; clear HB; have BK188 := n0_; have HB := n1_; clear n0_ n1_
      (try clear hb)
      (try clear hb2)
      (try clear hk)
      (try clear hi)
      refine hK.out _ _ ⟨(blk_cell BK188.out 0).trans rfl, (blk_cell BK188.out 1).trans rfl, ((hb_ HB hw189_0).trans rfl), ((hb_ HB hw189_1).trans rfl)⟩ (fun hHeld => ?_); clear hK K; refine norm_ (a' := ?_) ?_ ?_; rotate_left
      ·show Act.put _ (some 16) _ = _
       simp only [Act.put, sA, sZ, sS, i64_w, i32_w]
       rfl
      refine pq_ (i := 11) (N := some 17) #[Y,Y,Y,Y,Y,Y,Y,Y,Y,Y,Y,Y] HT_ ?_; refine done_ (done_of HT_.out (by kernel_rfl)) ?_; (try go_wp2); go_roundg k1
      case measure => have := HK1.out; omega
      case rel => exact ⟨(wrap64 (x5_1 + 1)), sq, H', ⟨by have := HK1.out; omega⟩, ⟨by (with_reducible repeat (first | refine blk_drewN ?_ _ | refine blk_drew ?_ | refine blk_alloc ?_ _)); exact BK188.out⟩, ⟨bs⟩⟩
     ·replace c7 := Bool.eq_false_iff.mpr c7
      subst c7; rw [if_neg (show ¬ (false = true) by decide)] at H; obtain ⟨y191, hy191⟩ : ∃ y_ : List (S49), y_ = (([] : List (S49))) := ⟨_, rfl⟩
      replace H : (if x5_1 ≤ (l0.length : Int) then ((some (l0.take (x5_1 : Int).toNat : List (S49))).bind fun y194 => (if y191.length + y194.length < 8796093022208 then ((some (y191 ++ y194 : List (S49))).bind fun y198 => ((some (([(⟨a1_0, a1_1⟩ : S49)] : List (S49)) : List (S49))).bind fun y201 => (if y198.length + y201.length < 8796093022208 then ((some (y198 ++ y201 : List (S49))).bind fun y204 => ((some (l0.drop (x5_1 : Int).toNat : List (S49))).bind fun y207 => (if y204.length + y207.length < 8796093022208 then (some (y204 ++ y207)) else (none)))) else (none)))) else (none))) else (none)) = some r := by first | (rw [hy191]; with_reducible exact H) | (have H2_ := (Option.bind_some _ _).symm.trans H; rw [hy191]; with_reducible exact H2_) | (have H2_ := (Option.bind_some _ _).symm.trans H; with_reducible exact H2_) | with_reducible exact H | (rw [hy191]; exact H) | exact H
      have Ny191 := ak hy191; clear hy191; have c10b0 := eq_true (dq : 0 ≤ x5_1)
      by_cases c11 : x5_1 ≤ (l0.length : Int)
      ·rw [if_pos c11] at H
       have c11b0 := eq_true c11; have c11b1 := decide_eq_true c11; clear c11; obtain ⟨y194, hy194⟩ : ∃ y_ : List (S49), y_ = (l0.take (x5_1 : Int).toNat) := ⟨_, rfl⟩
       replace H : (if y191.length + y194.length < 8796093022208 then ((some (y191 ++ y194 : List (S49))).bind fun y198 => ((some (([(⟨a1_0, a1_1⟩ : S49)] : List (S49)) : List (S49))).bind fun y201 => (if y198.length + y201.length < 8796093022208 then ((some (y198 ++ y201 : List (S49))).bind fun y204 => ((some (l0.drop (x5_1 : Int).toNat : List (S49))).bind fun y207 => (if y204.length + y207.length < 8796093022208 then (some (y204 ++ y207)) else (none)))) else (none)))) else (none)) = some r := by first | (rw [hy194]; with_reducible exact H) | (have H2_ := (Option.bind_some _ _).symm.trans H; rw [hy194]; with_reducible exact H2_) | (have H2_ := (Option.bind_some _ _).symm.trans H; with_reducible exact H2_) | with_reducible exact H | (rw [hy194]; exact H) | exact H
       have Ny194 := ak hy194; clear hy194
       by_cases c12 : y191.length + y194.length < 8796093022208
       ·rw [if_pos c12] at H
        have LMc12 := ak c12; clear c12; obtain ⟨y198, hy198⟩ : ∃ y_ : List (S49), y_ = (y191 ++ y194) := ⟨_, rfl⟩
        replace H : ((some (([(⟨a1_0, a1_1⟩ : S49)] : List (S49)) : List (S49))).bind fun y201 => (if y198.length + y201.length < 8796093022208 then ((some (y198 ++ y201 : List (S49))).bind fun y204 => ((some (l0.drop (x5_1 : Int).toNat : List (S49))).bind fun y207 => (if y204.length + y207.length < 8796093022208 then (some (y204 ++ y207)) else (none)))) else (none))) = some r := by first | (rw [hy198]; with_reducible exact H) | (have H2_ := (Option.bind_some _ _).symm.trans H; rw [hy198]; with_reducible exact H2_) | (have H2_ := (Option.bind_some _ _).symm.trans H; with_reducible exact H2_) | with_reducible exact H | (rw [hy198]; exact H) | exact H
        have Ny198 := ak hy198; clear hy198; obtain ⟨y201, hy201⟩ : ∃ y_ : List (S49), y_ = (([(⟨a1_0, a1_1⟩ : S49)] : List (S49))) := ⟨_, rfl⟩
        replace H : (if y198.length + y201.length < 8796093022208 then ((some (y198 ++ y201 : List (S49))).bind fun y204 => ((some (l0.drop (x5_1 : Int).toNat : List (S49))).bind fun y207 => (if y204.length + y207.length < 8796093022208 then (some (y204 ++ y207)) else (none)))) else (none)) = some r := by first | (rw [hy201]; with_reducible exact H) | (have H2_ := (Option.bind_some _ _).symm.trans H; rw [hy201]; with_reducible exact H2_) | (have H2_ := (Option.bind_some _ _).symm.trans H; with_reducible exact H2_) | with_reducible exact H | (rw [hy201]; exact H) | exact H
        have Ny201 := ak hy201; clear hy201
        by_cases c13 : y198.length + y201.length < 8796093022208
        ·rw [if_pos c13] at H
         have LMc13 := ak c13; clear c13; obtain ⟨y204, hy204⟩ : ∃ y_ : List (S49), y_ = (y198 ++ y201) := ⟨_, rfl⟩
         replace H : ((some (l0.drop (x5_1 : Int).toNat : List (S49))).bind fun y207 => (if y204.length + y207.length < 8796093022208 then (some (y204 ++ y207)) else (none))) = some r := by first | (rw [hy204]; with_reducible exact H) | (have H2_ := (Option.bind_some _ _).symm.trans H; rw [hy204]; with_reducible exact H2_) | (have H2_ := (Option.bind_some _ _).symm.trans H; with_reducible exact H2_) | with_reducible exact H | (rw [hy204]; exact H) | exact H
         have Ny204 := ak hy204; clear hy204; have c14b0 := eq_true (dq : 0 ≤ x5_1); have c15b0 := eq_true (dq : x5_1 ≤ (l0.length : Int)); obtain ⟨y207, hy207⟩ : ∃ y_ : List (S49), y_ = (l0.drop (x5_1 : Int).toNat) := ⟨_, rfl⟩
         replace H : (if y204.length + y207.length < 8796093022208 then (some (y204 ++ y207)) else (none)) = some r := by first | (rw [hy207]; with_reducible exact H) | (have H2_ := (Option.bind_some _ _).symm.trans H; rw [hy207]; with_reducible exact H2_) | (have H2_ := (Option.bind_some _ _).symm.trans H; with_reducible exact H2_) | with_reducible exact H | (rw [hy207]; exact H) | exact H
         have Ny207 := ak hy207; clear hy207
         by_cases c16 : y204.length + y207.length < 8796093022208
         ·rw [if_pos c16] at H
          have LMc16 := ak c16; clear c16; obtain ⟨y211, hy211⟩ : ∃ y_ : List (S49), y_ = (y204 ++ y207) := ⟨_, rfl⟩
          replace H : (some y211) = some r := by first | (rw [hy211]; with_reducible exact H) | (have H2_ := (Option.bind_some _ _).symm.trans H; rw [hy211]; with_reducible exact H2_) | (have H2_ := (Option.bind_some _ _).symm.trans H; with_reducible exact H2_) | with_reducible exact H | (rw [hy211]; exact H) | exact H
          have Ny211 := ak hy211; clear hy211; obtain rfl := Option.some.inj H; (try go_wp2); have n0_ := ak (blk_drew BK188.out); have n1_ := ak (below_drew1 HB.out); clear BK188; clear HB; have BK188 := n0_; have HB := n1_; clear n0_ n1_; have p189 : 0 ≤ (x5_1 : Int) := dq; have q189 : x5_1 < (l0.length : Int) := dq; obtain ⟨ad189, e189, hx189_0, hx189_1⟩ := at_T49 HR0.out x5_1 p189 q189; have hw189_1 := hx189_1; have hw189_0 := hx189_0; cases e189; replace hx189_0 := hb_ HB hx189_0; replace hx189_1 := hb_ HB hx189_1; replace p189 := eq_true p189; replace q189 := eq_true q189; refine start_ (n := 12) (S := fun w' => w'.cell? ⟨gb188, 0, none⟩ = some (.int .i64 a1_0) ∧ w'.cell? ⟨gb188, 1, none⟩ = some (.int .i64 a1_1) ∧ w'.cell? (ad189.add ((x5_1).toNat * 2)) = some (.int .i64 ((rd_T49 l0 x5_1).f0)) ∧ w'.cell? ⟨(ad189.add ((x5_1).toNat * 2)).block, (ad189.add ((x5_1).toNat * 2)).off + 1, none⟩ = some (.int .i64 ((rd_T49 l0 x5_1).f1))) (ds := []) #[Z,Z,Z,Z,Z,Z,Z,Z,Z,Z,Z,Z] (by kernel_rfl) rfl rfl ⟨(blk_cell BK188.out 0).trans rfl, (blk_cell BK188.out 1).trans rfl, ((hb_ HB hw189_0).trans rfl), ((hb_ HB hw189_1).trans rfl)⟩ (fun hHeld => ?_); refine with_tabW spec_l8Put.tab2 spec_l8Put.bits2 (fun HT_ HW_ => ?_)
          generalize wr.drew = w17 at BK188 HB hx189_0 hx189_1 hHeld ⊢
          refine pq_ (i := 0) (N := some 6) #[Y,Z,Z,Z,Z,Z,Z,Z,Z,Z,Z,Z] HT_ ?_; refine pq_ (i := 1) (N := some 7) #[Y,Y,Z,Z,Z,Z,Z,Z,Z,Z,Z,Z] HT_ ?_; refine pq_ (i := 2) (N := some 8) #[Y,Y,Y,Z,Z,Z,Z,Z,Z,Z,Z,Z] HT_ ?_; refine pq_ (i := 3) (N := some 9) #[Y,Y,Y,Y,Z,Z,Z,Z,Z,Z,Z,Z] HT_ ?_; refine pq_ (i := 4) (N := some 10) #[Y,Y,Y,Y,Y,Z,Z,Z,Z,Z,Z,Z] HT_ ?_; refine pq_ (i := 5) (N := some 11) #[Y,Y,Y,Y,Y,Y,Z,Z,Z,Z,Z,Z] HT_ ?_; refine pq_ (i := 6) (N := some 12) #[Y,Y,Y,Y,Y,Y,Y,Z,Z,Z,Z,Z] HT_ ?_; refine pq_ (i := 7) (N := some 13) #[Y,Y,Y,Y,Y,Y,Y,Y,Z,Z,Z,Z] HT_ ?_; refine tk_ (i := 8) (N := some 14) #[Y,Y,Y,Y,Y,Y,Y,Y,Y,Z,Z,Z] HT_ HW_ hHeld ?_; refine tk_ (i := 9) (N := some 15) #[Y,Y,Y,Y,Y,Y,Y,Y,Y,Y,Z,Z] HT_ HW_ hHeld ?_; refine one_ (i := 10) (N := some 16) #[Y,Y,Y,Y,Y,Y,Y,Y,Y,Y,Y,Z] rfl rfl (one_of HT_.out (by kernel_rfl)) (by decide) (fun K hK => ?_); refine goes_ Try.func106 (by kernel_rfl) rfl #[.agg #[.int .i64 ((rd_T49 l0 x5_1).f0), .int .i64 ((rd_T49 l0 x5_1).f1)], .agg #[.int .i64 a1_0, .int .i64 a1_1]] (by rfl) rfl rfl aq ?_
          with_reducible refine (spec_l8Before.calls ((rd_T49 l0 x5_1).f0) ((rd_T49 l0 x5_1).f1) a1_0 a1_1 false _ A6.out).mono ?_
          rintro e w18 ⟨rfl, hb⟩
          refine ⟨_, rfl, ?_⟩; have n0_ := ak (blk_below (g := gb188) (o := .cells #[.int .i64 a1_0, .int .i64 a1_1] 49 (0, 0)) (uq BK188) hb); have n1_ := ak (below_step bs hb); clear BK188; clear HB; have BK188 := n0_; have HB := n1_; clear n0_ n1_
          (try clear hb)
          (try clear hb2)
          (try clear hk)
          (try clear hi)
          refine hK.out _ _ ⟨(blk_cell BK188.out 0).trans rfl, (blk_cell BK188.out 1).trans rfl, ((hb_ HB hw189_0).trans rfl), ((hb_ HB hw189_1).trans rfl)⟩ (fun hHeld => ?_); clear hK K; refine norm_ (a' := ?_) ?_ ?_; rotate_left
          ·show Act.put _ (some 16) _ = _
           simp only [Act.put, sA, sZ, sS, i64_w, i32_w]
           rfl
          refine pq_ (i := 11) (N := some 17) #[Y,Y,Y,Y,Y,Y,Y,Y,Y,Y,Y,Y] HT_ ?_; refine done_ (done_of HT_.out (by kernel_rfl)) ?_; (try go_wp2); have n0_ := ak (blk_drew BK188.out); have n1_ := ak (below_drew1 HB.out); clear BK188; clear HB; have BK188 := n0_; have HB := n1_; clear n0_ n1_; have q20 : (x5_1 : Int) ≤ ((l0.length : Int) : Int) := dq; obtain ⟨i020, hi020, _, hsz20, _⟩ := info_parts info49; have hroom20 : l0.length ≤ c0 := HC0.out; have hC20 : Kd.C k49 _ (some ad189) l0.length l0 := HR0.out; have hcut20 := cut_to (P := Try.prog) 22 49 .i64 Try.underlying22 hi020 (some ad189) l0.length c0 x5_1 (dq) q20 hroom20; have hr20 := Kd.C_take (m := (x5_1 : Int).toNat) hC20 (by omega); have hy20 : y194.length = (x5_1 : Int).toNat := (by rw [Ny194.out, List.length_take]; omega); rw [← Ny194.out] at hr20; rw [← hy20] at hcut20; have HR197 := ak hr20; have HC197 := ak (show y194.length ≤ c0 from by omega); clear hr20 hC20 hroom20 hi020 hsz20; have KY20 := ak hy20; clear hy20; replace q20 := eq_true q20; have q21 : (x5_1 : Int) ≤ ((l0.length : Int) : Int) := dq; obtain ⟨i021, hi021, _, hsz21, _⟩ := info_parts info49; have hroom21 : l0.length ≤ c0 := HC0.out; have hC21 : Kd.C k49 _ (some ad189) l0.length l0 := HR0.out; have q021 : (0 : Int) ≤ (x5_1 : Int) := dq; have hcut21 := cut_from (P := Try.prog) 22 49 .i64 Try.underlying22 hi021 2 hsz21 (some ad189) l0.length c0 x5_1 q021 q21; have hr21 := Kd.C_drop (m := (x5_1 : Int).toNat) (c := c0) hC21 (by omega) hroom21; obtain ⟨A21, hA21⟩ : ∃ A1, A1 = (if c0 = (x5_1 : Int).toNat then (some ad189) else ((some ad189) : Option Addr).map (·.add ((x5_1 : Int).toNat * 2))) := ⟨_, rfl⟩; obtain ⟨c21, hc21⟩ : ∃ c1, c1 = c0 - (x5_1 : Int).toNat := ⟨_, rfl⟩; have hy21 : y207.length = l0.length - (x5_1 : Int).toNat := (by rw [Ny207.out, List.length_drop] <;> omega); rw [show (l0).drop (x5_1 : Int).toNat = y207 from Ny207.out.symm] at hr21; replace hr21 : Kd.C k49 _ A21 y207.length y207 := (by rw [hA21]; exact hr21); rw [← hy21, ← hA21, ← hc21] at hcut21; have HR210 := ak hr21; have HC210 := ak (show y207.length ≤ c21 from by rw [hy21, hc21]; exact Nat.sub_le_sub_right hroom21 _); clear hr21 hC21 hroom21 hi021 hsz21 hc21; have KY21 := ak hy21; have KA21 := ak hA21; clear hy21 hA21; replace q21 := eq_true q21; refine start_ (n := 13) (S := fun w' => w'.cell? ⟨gb188, 0, none⟩ = some (.int .i64 a1_0) ∧ w'.cell? ⟨gb188, 1, none⟩ = some (.int .i64 a1_1)) (ds := []) #[Z,Z,Z,Z,Z,Z,Z,Z,Z,Z,Z,Z,Z] (by kernel_rfl) rfl rfl ⟨(blk_cell BK188.out 0).trans rfl, (blk_cell BK188.out 1).trans rfl⟩ (fun hHeld => ?_); refine with_tabW spec_l8Put.tab4 spec_l8Put.bits4 (fun HT_ HW_ => ?_)
          generalize w18.drew = w19 at BK188 HB HR197 HR210 hHeld ⊢
          refine pq_ (i := 1) (N := some 21) #[Z,Y,Z,Z,Z,Z,Z,Z,Z,Z,Z,Z,Z] HT_ ?_; refine pq_ (i := 2) (N := some 22) #[Z,Y,Y,Z,Z,Z,Z,Z,Z,Z,Z,Z,Z] HT_ ?_; refine pq_ (i := 3) (N := some 23) #[Z,Y,Y,Y,Z,Z,Z,Z,Z,Z,Z,Z,Z] HT_ ?_; refine pq_ (i := 8) (N := some 28) #[Z,Y,Y,Y,Z,Z,Z,Z,Y,Z,Z,Z,Z] HT_ ?_; refine pq_ (i := 9) (N := some 29) #[Z,Y,Y,Y,Z,Z,Z,Z,Y,Y,Z,Z,Z] HT_ ?_; refine pq_ (i := 10) (N := some 30) #[Z,Y,Y,Y,Z,Z,Z,Z,Y,Y,Y,Z,Z] HT_ ?_; refine tk_ (i := 5) (N := some 25) #[Z,Y,Y,Y,Z,Y,Z,Z,Y,Y,Y,Z,Z] HT_ HW_ hHeld ?_; refine join_ (σ := Value × Value × Value) 3 #[Y,Y,Y,Y,Y,Y,Y,Z,Y,Y,Y,Z,Z] (fun s_ => [(20, s_.1), (24, s_.2.1), (26, s_.2.2)]) (fun s_ w' => (w'.cell? ⟨gb188, 0, none⟩ = some (.int .i64 a1_0) ∧ w'.cell? ⟨gb188, 1, none⟩ = some (.int .i64 a1_1)) ∧ (Kd.R k49 49 w' w.heap.size (fun k_ => some k_ ≠ (s_.2.2 : Value).ownBlock ∧ k_ ≠ gb188) s_.2.1 y198) ∧ (Kd.R k49 49 w' w.heap.size (fun k_ => some k_ ≠ (s_.2.1 : Value).ownBlock ∧ k_ ≠ gb188) s_.2.2 y201) ∧ (w'.heap[gb188]? = some (.cells #[.int .i64 a1_0, .int .i64 a1_1] 49 (0, 0))) ∧ (Below w.heap.size w w')) ?_ ?_; rotate_left
          ·intro hCont
           refine two_ (i := 0) (j := 6) (Ni := some 20) (Nj := some 26) #[Y,Y,Y,Y,Z,Y,Z,Z,Y,Y,Y,Z,Z] #[Z,Y,Y,Y,Z,Y,Y,Z,Y,Y,Y,Z,Z] rfl rfl rfl rfl (two_of HT_.out (by kernel_rfl)) (by decide) (by decide) (fun K hK => ?_) (fun K hK => ?_)
           ·skip
            refine Kd.R_lit_step k49 _ 49 ?hg (N := 20) ?hd (xs := ([] : List (S49))) (inner := []) (ok := fun _ => True) (okp := fun _ => True) ?hr ?hp (fun _ hk => hk) trivial (Below.refl _ _) (Nat.le_refl _) (by simp) ?_; (case hd => rfl); (case hg => rfl); (case hr => first | (go_simp; done) | (go_simp; rfl)); (case hp => exact (Reps.none _ _)); intro v192 w22 ho23 hb hg_ hnew_; clear hg_ hnew_
            (first | rw [← Ny191.out] at ho23 | (simp only [Int.reduceToNat] at ho23; rw [← Ny191.out] at ho23))
            have n0_ := ak (Kd.R_lower (Kd.R_newB ho23 (g := gb188) (o := .cells #[.int .i64 a1_0, .int .i64 a1_1] 49 (0, 0)) (uq BK188)) (below_size bs)); have n1_ := ak (blk_below (g := gb188) (o := .cells #[.int .i64 a1_0, .int .i64 a1_1] 49 (0, 0)) (uq BK188) hb); have n2_ := ak (below_step bs hb); clear BK188; clear HB; have HO193 := n0_; have BK188 := n1_; have HB := n2_; clear n0_ n1_ n2_; clear hb ho23; refine hK.out _ _ ⟨(blk_cell BK188.out 0).trans rfl, (blk_cell BK188.out 1).trans rfl⟩ (fun hHeld => ?_); clear hK K; refine norm_ (a' := ?_) ?_ ?_; rotate_left
            ·show Act.put _ (some 20) _ = _
             simp only [Act.put, sA, sZ, sS, i64_w, i32_w]
             rfl
            refine two_ (i := 4) (j := 6) (Ni := some 24) (Nj := some 26) #[Y,Y,Y,Y,Y,Y,Z,Z,Y,Y,Y,Z,Z] #[Y,Y,Y,Y,Z,Y,Y,Z,Y,Y,Y,Z,Z] rfl rfl rfl rfl (two_of HT_.out (by kernel_rfl)) (by decide) (by decide) (fun K hK => ?_) (fun K hK => ?_)
            ·skip
             refine Kd.R_append_rows_step k49 (w0 := w) w.heap.size (by rfl) (.tmp 20) (.tmp 23) 22 49 (.agg #[(.int .i64 0), (.int .i64 0)]) 16 rfl Try.underlying22 info49 rfl (by decide) (by omega) v192 y191 y194 _ _ _ (fun k_ => k_ ≠ gb188) (fun _ => False) rfl rfl ?aO ?aR (fun _ _ h => h) (fun _ h => h.elim) ?aF ?aB ?aS ?aL ?_
             (case aR => exact cq (Kd.C_below HR197.out HB.out))
             (case aB => exact bs)
             (case aF => exact (fun k_ hk => Kd.freshB (g := gb188) (o := .cells #[.int .i64 a1_0, .int .i64 a1_1] 49 (0, 0)) (uq BK188) k_ hk))
             (case aO => exact (by (with_reducible repeat (first | apply Kd.R_alloc | apply Kd.R_drewN | apply Kd.R_drew)); exact Kd.R_mono HO193.out (fun _ hk => hk.2)))
             (case aS => exact (below_size bs))
             (case aL => have := LMc12.out; omega)
             intro v199 w24 ho hb hg hat; rw [← Ny198.out] at ho; have n0_ := ak (blk_grown (g := gb188) (o := .cells #[.int .i64 a1_0, .int .i64 a1_1] 49 (0, 0)) (uq BK188) hg (Kd.R_away HO193.out (fun _ hk => hk.2))); have n1_ := ak (hb); have n2_ := ak (ho); clear BK188; clear HB; clear HO193; have BK188 := n0_; have HB := n1_; have HO200 := n2_; clear n0_ n1_ n2_; clear ho hb hg hat; refine hK.out _ _ ⟨(blk_cell BK188.out 0).trans rfl, (blk_cell BK188.out 1).trans rfl⟩ (fun hHeld => ?_); clear hK K; refine norm_ (a' := ?_) ?_ ?_; rotate_left
             ·show Act.put _ (some 24) _ = _
              simp only [Act.put, sA, sZ, sS, i64_w, i32_w]
              rfl
             refine one_ (i := 6) (N := some 26) #[Y,Y,Y,Y,Y,Y,Y,Z,Y,Y,Y,Z,Z] rfl rfl (one_of HT_.out (by kernel_rfl)) (by decide) (fun K hK => ?_); refine Kd.R_lit_step k49 _ 49 ?hg (N := 26) ?hd (xs := ([(⟨a1_0, a1_1⟩ : S49)] : List (S49))) (inner := [.int .i64 a1_0, .int .i64 a1_1]) (ok := fun _ => True) (okp := fun _ => True) ?hr ?hp (fun _ hk => hk) trivial (Below.refl _ _) (Nat.le_refl _) (by simp) ?_; (case hd => rfl); (case hg => rfl); (case hr => first | (go_simp; done) | (go_simp; rfl)); (case hp => exact (Reps.c2 (show Kd.M k49 _ _ _ (⟨a1_0, a1_1⟩ : S49) [.int .i64 a1_0, .int .i64 a1_1] from (k49_mkM _ _ _ (⟨a1_0, a1_1⟩ : S49) )) (Reps.none _ _))); intro v202 w25 ho26 hb hg_ hnew_; clear hg_ hnew_
             (first | rw [← Ny201.out] at ho26 | (simp only [Int.reduceToNat] at ho26; rw [← Ny201.out] at ho26))
             have n0_ := ak (Kd.R_elder' (rq HO200) (Kd.R_base ho26) hb); have n1_ := ak (Kd.R_lower (Kd.R_newB (Kd.R_new' ho26 (Kd.R_lt (rq HO200))) (g := gb188) (o := .cells #[.int .i64 a1_0, .int .i64 a1_1] 49 (0, 0)) (uq BK188)) (below_size bs)); have n2_ := ak (blk_below (g := gb188) (o := .cells #[.int .i64 a1_0, .int .i64 a1_1] 49 (0, 0)) (uq BK188) hb); have n3_ := ak (below_step bs hb); clear HO200; clear BK188; clear HB; have HO200 := n0_; have HO203 := n1_; have BK188 := n2_; have HB := n3_; clear n0_ n1_ n2_ n3_; clear hb ho26; refine hK.out _ _ ⟨(blk_cell BK188.out 0).trans rfl, (blk_cell BK188.out 1).trans rfl⟩ (fun hHeld => ?_); clear hK K; refine norm_ (a' := ?_) ?_ ?_; rotate_left
             ·show Act.put _ (some 26) _ = _
              simp only [Act.put, sA, sZ, sS, i64_w, i32_w]
              rfl
             exact norm_ (by simp only [putAll, Act.put, List.setIfInBounds_toArray, List.set_cons_zero, List.set_cons_succ]) (hCont (v192, v199, v202) _ ⟨hHeld, (by (with_reducible repeat (first | apply Kd.R_alloc | apply Kd.R_drewN | apply Kd.R_drew)); exact Kd.R_mono HO200.out (fun _ hk => ⟨hk.2, hk.1⟩)), (by (with_reducible repeat (first | apply Kd.R_alloc | apply Kd.R_drewN | apply Kd.R_drew)); exact Kd.R_mono HO203.out (fun _ hk => ⟨hk.1.2, hk.2⟩)), (uq BK188), bs⟩)
            ·skip
             refine Kd.R_lit_step k49 _ 49 ?hg (N := 26) ?hd (xs := ([(⟨a1_0, a1_1⟩ : S49)] : List (S49))) (inner := [.int .i64 a1_0, .int .i64 a1_1]) (ok := fun _ => True) (okp := fun _ => True) ?hr ?hp (fun _ hk => hk) trivial (Below.refl _ _) (Nat.le_refl _) (by simp) ?_; (case hd => rfl); (case hg => rfl); (case hr => first | (go_simp; done) | (go_simp; rfl)); (case hp => exact (Reps.c2 (show Kd.M k49 _ _ _ (⟨a1_0, a1_1⟩ : S49) [.int .i64 a1_0, .int .i64 a1_1] from (k49_mkM _ _ _ (⟨a1_0, a1_1⟩ : S49) )) (Reps.none _ _))); intro v202 w24 ho25 hb hg_ hnew_; clear hg_ hnew_
             (first | rw [← Ny201.out] at ho25 | (simp only [Int.reduceToNat] at ho25; rw [← Ny201.out] at ho25))
             have n0_ := ak (Kd.R_elder' (rq HO193) (Kd.R_base ho25) hb); have n1_ := ak (Kd.R_lower (Kd.R_newB (Kd.R_new' ho25 (Kd.R_lt (rq HO193))) (g := gb188) (o := .cells #[.int .i64 a1_0, .int .i64 a1_1] 49 (0, 0)) (uq BK188)) (below_size bs)); have n2_ := ak (blk_below (g := gb188) (o := .cells #[.int .i64 a1_0, .int .i64 a1_1] 49 (0, 0)) (uq BK188) hb); have n3_ := ak (below_step bs hb); clear HO193; clear BK188; clear HB; have HO193 := n0_; have HO203 := n1_; have BK188 := n2_; have HB := n3_; clear n0_ n1_ n2_ n3_; clear hb ho25; refine hK.out _ _ ⟨(blk_cell BK188.out 0).trans rfl, (blk_cell BK188.out 1).trans rfl⟩ (fun hHeld => ?_); clear hK K; refine norm_ (a' := ?_) ?_ ?_; rotate_left
             ·show Act.put _ (some 26) _ = _
              simp only [Act.put, sA, sZ, sS, i64_w, i32_w]
              rfl
             refine one_ (i := 4) (N := some 24) #[Y,Y,Y,Y,Y,Y,Y,Z,Y,Y,Y,Z,Z] rfl rfl (one_of HT_.out (by kernel_rfl)) (by decide) (fun K hK => ?_); refine Kd.R_append_rows_step k49 (w0 := w) w.heap.size (by rfl) (.tmp 20) (.tmp 23) 22 49 (.agg #[(.int .i64 0), (.int .i64 0)]) 16 rfl Try.underlying22 info49 rfl (by decide) (by omega) v192 y191 y194 _ _ _ (fun k_ => some k_ ≠ (v202 : Value).ownBlock ∧ k_ ≠ gb188) (fun _ => False) rfl rfl ?aO ?aR (fun _ _ h => h) (fun _ h => h.elim) ?aF ?aB ?aS ?aL ?_
             (case aR => exact cq (Kd.C_below HR197.out HB.out))
             (case aB => exact bs)
             (case aF => exact (fun k_ hk => ⟨Kd.fresh' (Kd.R_lt (rq HO203)) k_ hk, Kd.freshB (g := gb188) (o := .cells #[.int .i64 a1_0, .int .i64 a1_1] 49 (0, 0)) (uq BK188) k_ hk⟩))
             (case aO => exact (by (with_reducible repeat (first | apply Kd.R_alloc | apply Kd.R_drewN | apply Kd.R_drew)); exact Kd.R_mono HO193.out (fun _ hk => ⟨hk.2, hk.1.2⟩)))
             (case aS => exact (below_size bs))
             (case aL => have := LMc12.out; omega)
             intro v199 w26 ho hb hg hat; rw [← Ny198.out] at ho; have n0_ := ak (blk_grown (g := gb188) (o := .cells #[.int .i64 a1_0, .int .i64 a1_1] 49 (0, 0)) (uq BK188) hg (Kd.R_away HO193.out (fun _ hk => hk.1.2))); have n1_ := ak (Kd.R_after (ok := (fun k_ => k_ ≠ gb188)) (by (with_reducible repeat (first | apply Kd.R_alloc | apply Kd.R_drewN | apply Kd.R_drew)); exact Kd.R_mono HO203.out (fun _ hk => ⟨hk.2, hk.1.2⟩)) hg hat); have n2_ := ak (hb); have n3_ := ak (ho); clear BK188; clear HO203; clear HB; clear HO193; have BK188 := n0_; have HO203 := n1_; have HB := n2_; have HO200 := n3_; clear n0_ n1_ n2_ n3_; clear ho hb hg hat; refine hK.out _ _ ⟨(blk_cell BK188.out 0).trans rfl, (blk_cell BK188.out 1).trans rfl⟩ (fun hHeld => ?_); clear hK K; refine norm_ (a' := ?_) ?_ ?_; rotate_left
             ·show Act.put _ (some 24) _ = _
              simp only [Act.put, sA, sZ, sS, i64_w, i32_w]
              rfl
             exact norm_ (by simp only [putAll, Act.put, List.setIfInBounds_toArray, List.set_cons_zero, List.set_cons_succ]) (hCont (v192, v199, v202) _ ⟨hHeld, (rq HO200), (by (with_reducible repeat (first | apply Kd.R_alloc | apply Kd.R_drewN | apply Kd.R_drew)); exact Kd.R_mono HO203.out (fun _ hk => ⟨hk.2, hk.1⟩)), (uq BK188), bs⟩)
           ·skip
            refine Kd.R_lit_step k49 _ 49 ?hg (N := 26) ?hd (xs := ([(⟨a1_0, a1_1⟩ : S49)] : List (S49))) (inner := [.int .i64 a1_0, .int .i64 a1_1]) (ok := fun _ => True) (okp := fun _ => True) ?hr ?hp (fun _ hk => hk) trivial (Below.refl _ _) (Nat.le_refl _) (by simp) ?_; (case hd => rfl); (case hg => rfl); (case hr => first | (go_simp; done) | (go_simp; rfl)); (case hp => exact (Reps.c2 (show Kd.M k49 _ _ _ (⟨a1_0, a1_1⟩ : S49) [.int .i64 a1_0, .int .i64 a1_1] from (k49_mkM _ _ _ (⟨a1_0, a1_1⟩ : S49) )) (Reps.none _ _))); intro v202 w22 ho23 hb hg_ hnew_; clear hg_ hnew_
            (first | rw [← Ny201.out] at ho23 | (simp only [Int.reduceToNat] at ho23; rw [← Ny201.out] at ho23))
            have n0_ := ak (Kd.R_lower (Kd.R_newB ho23 (g := gb188) (o := .cells #[.int .i64 a1_0, .int .i64 a1_1] 49 (0, 0)) (uq BK188)) (below_size bs)); have n1_ := ak (blk_below (g := gb188) (o := .cells #[.int .i64 a1_0, .int .i64 a1_1] 49 (0, 0)) (uq BK188) hb); have n2_ := ak (below_step bs hb); clear BK188; clear HB; have HO203 := n0_; have BK188 := n1_; have HB := n2_; clear n0_ n1_ n2_; clear hb ho23; refine hK.out _ _ ⟨(blk_cell BK188.out 0).trans rfl, (blk_cell BK188.out 1).trans rfl⟩ (fun hHeld => ?_); clear hK K; refine norm_ (a' := ?_) ?_ ?_; rotate_left
            ·show Act.put _ (some 26) _ = _
             simp only [Act.put, sA, sZ, sS, i64_w, i32_w]
             rfl
            refine one_ (i := 0) (N := some 20) #[Y,Y,Y,Y,Z,Y,Y,Z,Y,Y,Y,Z,Z] rfl rfl (one_of HT_.out (by kernel_rfl)) (by decide) (fun K hK => ?_); refine Kd.R_lit_step k49 _ 49 ?hg (N := 20) ?hd (xs := ([] : List (S49))) (inner := []) (ok := fun _ => True) (okp := fun _ => True) ?hr ?hp (fun _ hk => hk) trivial (Below.refl _ _) (Nat.le_refl _) (by simp) ?_; (case hd => rfl); (case hg => rfl); (case hr => first | (go_simp; done) | (go_simp; rfl)); (case hp => exact (Reps.none _ _)); intro v192 w24 ho25 hb hg_ hnew_; clear hg_ hnew_
            (first | rw [← Ny191.out] at ho25 | (simp only [Int.reduceToNat] at ho25; rw [← Ny191.out] at ho25))
            have n0_ := ak (Kd.R_elder' (rq HO203) (Kd.R_base ho25) hb); have n1_ := ak (Kd.R_lower (Kd.R_newB (Kd.R_new' ho25 (Kd.R_lt (rq HO203))) (g := gb188) (o := .cells #[.int .i64 a1_0, .int .i64 a1_1] 49 (0, 0)) (uq BK188)) (below_size bs)); have n2_ := ak (blk_below (g := gb188) (o := .cells #[.int .i64 a1_0, .int .i64 a1_1] 49 (0, 0)) (uq BK188) hb); have n3_ := ak (below_step bs hb); clear HO203; clear BK188; clear HB; have HO203 := n0_; have HO193 := n1_; have BK188 := n2_; have HB := n3_; clear n0_ n1_ n2_ n3_; clear hb ho25; refine hK.out _ _ ⟨(blk_cell BK188.out 0).trans rfl, (blk_cell BK188.out 1).trans rfl⟩ (fun hHeld => ?_); clear hK K; refine norm_ (a' := ?_) ?_ ?_; rotate_left
            ·show Act.put _ (some 20) _ = _
             simp only [Act.put, sA, sZ, sS, i64_w, i32_w]
             rfl
            refine one_ (i := 4) (N := some 24) #[Y,Y,Y,Y,Y,Y,Y,Z,Y,Y,Y,Z,Z] rfl rfl (one_of HT_.out (by kernel_rfl)) (by decide) (fun K hK => ?_); refine Kd.R_append_rows_step k49 (w0 := w) w.heap.size (by rfl) (.tmp 20) (.tmp 23) 22 49 (.agg #[(.int .i64 0), (.int .i64 0)]) 16 rfl Try.underlying22 info49 rfl (by decide) (by omega) v192 y191 y194 _ _ _ (fun k_ => some k_ ≠ (v202 : Value).ownBlock ∧ k_ ≠ gb188) (fun _ => False) rfl rfl ?aO ?aR (fun _ _ h => h) (fun _ h => h.elim) ?aF ?aB ?aS ?aL ?_
            (case aR => exact cq (Kd.C_below HR197.out HB.out))
            (case aB => exact bs)
            (case aF => exact (fun k_ hk => ⟨Kd.fresh' (Kd.R_lt (rq HO203)) k_ hk, Kd.freshB (g := gb188) (o := .cells #[.int .i64 a1_0, .int .i64 a1_1] 49 (0, 0)) (uq BK188) k_ hk⟩))
            (case aO => exact (by (with_reducible repeat (first | apply Kd.R_alloc | apply Kd.R_drewN | apply Kd.R_drew)); exact Kd.R_mono HO193.out (fun _ hk => ⟨hk.1.2, hk.2⟩)))
            (case aS => exact (below_size bs))
            (case aL => have := LMc12.out; omega)
            intro v199 w26 ho hb hg hat; rw [← Ny198.out] at ho; have n0_ := ak (blk_grown (g := gb188) (o := .cells #[.int .i64 a1_0, .int .i64 a1_1] 49 (0, 0)) (uq BK188) hg (Kd.R_away HO193.out (fun _ hk => hk.2))); have n1_ := ak (Kd.R_after (ok := (fun k_ => k_ ≠ gb188)) (by (with_reducible repeat (first | apply Kd.R_alloc | apply Kd.R_drewN | apply Kd.R_drew)); exact Kd.R_mono HO203.out (fun _ hk => ⟨hk.1.2, hk.2⟩)) hg hat); have n2_ := ak (hb); have n3_ := ak (ho); clear BK188; clear HO203; clear HB; clear HO193; have BK188 := n0_; have HO203 := n1_; have HB := n2_; have HO200 := n3_; clear n0_ n1_ n2_ n3_; clear ho hb hg hat; refine hK.out _ _ ⟨(blk_cell BK188.out 0).trans rfl, (blk_cell BK188.out 1).trans rfl⟩ (fun hHeld => ?_); clear hK K; refine norm_ (a' := ?_) ?_ ?_; rotate_left
            ·show Act.put _ (some 24) _ = _
             simp only [Act.put, sA, sZ, sS, i64_w, i32_w]
             rfl
            exact norm_ (by simp only [putAll, Act.put, List.setIfInBounds_toArray, List.set_cons_zero, List.set_cons_succ]) (hCont (v192, v199, v202) _ ⟨hHeld, (rq HO200), (by (with_reducible repeat (first | apply Kd.R_alloc | apply Kd.R_drewN | apply Kd.R_drew)); exact Kd.R_mono HO203.out (fun _ hk => ⟨hk.2, hk.1⟩)), (uq BK188), bs⟩)
          rintro ⟨v192, v199, v202⟩ w27 ⟨hS_, h0_, h1_, h2_, h3_⟩
          have n0_ : Aside0 (Kd.R k49 49 w27 w.heap.size (fun k_ => some k_ ≠ (v202 : Value).ownBlock ∧ k_ ≠ gb188) v199 y198) := ⟨h0_⟩; have n1_ : Aside0 (Kd.R k49 49 w27 w.heap.size (fun k_ => some k_ ≠ (v199 : Value).ownBlock ∧ k_ ≠ gb188) v202 y201) := ⟨h1_⟩; have n2_ : Aside0 (w27.heap[gb188]? = some (.cells #[.int .i64 a1_0, .int .i64 a1_1] 49 (0, 0))) := ⟨h2_⟩; have n3_ : Aside0 (Below w.heap.size w w27) := ⟨h3_⟩; clear BK188; clear HB; clear h0_ h1_ h2_ h3_; have HO200 := n0_; have HO203 := n1_; have BK188 := n2_; have HB := n3_; clear n0_ n1_ n2_ n3_; have hHeld : w27.cell? ⟨gb188, 0, none⟩ = some (.int .i64 a1_0) ∧ w27.cell? ⟨gb188, 1, none⟩ = some (.int .i64 a1_1) := hS_; obtain ⟨Ao29, co29, eo29⟩ := Kd.R_slice HO203.out
          (first | subst eo29 | (injection eo29 with f1_ f2_ f3_; have f4_ := f1_.symm; have f5_ := f3_.symm; clear f1_ f2_ f3_; subst f4_; subst f5_))
          refine norm_ (a' := ?_) ?_ ?_; rotate_left
          ·simp only [putAll, Act.put, List.setIfInBounds_toArray, List.set_cons_zero, List.set_cons_succ]
           rfl
          refine one_ (i := 7) (N := some 27) #[Y,Y,Y,Y,Y,Y,Y,Y,Y,Y,Y,Z,Z] rfl rfl (one_of HT_.out (by kernel_rfl)) (by decide) (fun K hK => ?_); refine Kd.R_append_rows_step k49 (w0 := w) w.heap.size (by rfl) (.tmp 24) (.tmp 26) 22 49 (.agg #[(.int .i64 0), (.int .i64 0)]) 16 rfl Try.underlying22 info49 rfl (by decide) (by omega) v199 y198 y201 _ _ _ (fun k_ => some k_ ≠ (.slice Ao29 y201.length co29 : Value).ownBlock ∧ k_ ≠ gb188) (fun _ => False) rfl rfl ?aO ?aR (fun _ _ h => h) (fun _ h => h.elim) ?aF ?aB ?aS ?aL ?_
          (case aR => exact cq (Kd.R_reads' HO203.out).2.2)
          (case aB => exact bs)
          (case aF => exact (fun k_ hk => ⟨Kd.fresh' (Kd.R_lt (rq HO203)) k_ hk, Kd.freshB (g := gb188) (o := .cells #[.int .i64 a1_0, .int .i64 a1_1] 49 (0, 0)) (uq BK188) k_ hk⟩))
          (case aO => exact (rq HO200))
          (case aS => exact (below_size bs))
          (case aL => have := LMc13.out; omega)
          intro v205 w28 ho hb hg hat; rw [← Ny204.out] at ho; have n0_ := ak (blk_grown (g := gb188) (o := .cells #[.int .i64 a1_0, .int .i64 a1_1] 49 (0, 0)) (uq BK188) hg (Kd.R_away HO200.out (fun _ hk => hk.2))); have n1_ := ak (Kd.R_after (ok := (fun k_ => k_ ≠ gb188)) (by (with_reducible repeat (first | apply Kd.R_alloc | apply Kd.R_drewN | apply Kd.R_drew)); exact Kd.R_mono HO203.out (fun _ hk => ⟨hk.2, hk.1⟩)) hg hat); have n2_ := ak (hb); have n3_ := ak (ho); clear BK188; clear HO203; clear HB; clear HO200; have BK188 := n0_; have HO203 := n1_; have HB := n2_; have HO206 := n3_; clear n0_ n1_ n2_ n3_; clear ho hb hg hat; refine hK.out _ _ ⟨(blk_cell BK188.out 0).trans rfl, (blk_cell BK188.out 1).trans rfl⟩ (fun hHeld => ?_); clear hK K; refine norm_ (a' := ?_) ?_ ?_; rotate_left
          ·show Act.put _ (some 27) _ = _
           simp only [Act.put, sA, sZ, sS, i64_w, i32_w]
           rfl
          refine one_ (i := 11) (N := some 31) #[Y,Y,Y,Y,Y,Y,Y,Y,Y,Y,Y,Y,Z] rfl rfl (one_of HT_.out (by kernel_rfl)) (by decide) (fun K hK => ?_); refine Kd.R_append_rows_step k49 (w0 := w) w.heap.size (by rfl) (.tmp 27) (.tmp 30) 22 49 (.agg #[(.int .i64 0), (.int .i64 0)]) 16 rfl Try.underlying22 info49 rfl (by decide) (by omega) v205 y204 y207 _ _ _ (fun k_ => some k_ ≠ (.slice Ao29 y201.length co29 : Value).ownBlock ∧ k_ ≠ gb188) (fun _ => False) rfl rfl ?aO ?aR (fun _ _ h => h) (fun _ h => h.elim) ?aF ?aB ?aS ?aL ?_
          (case aR => exact cq (Kd.C_below HR210.out HB.out))
          (case aB => exact bs)
          (case aF => exact (fun k_ hk => ⟨Kd.fresh' (Kd.R_lt (rq HO203)) k_ hk, Kd.freshB (g := gb188) (o := .cells #[.int .i64 a1_0, .int .i64 a1_1] 49 (0, 0)) (uq BK188) k_ hk⟩))
          (case aO => exact (rq HO206))
          (case aS => exact (below_size bs))
          (case aL => have := LMc16.out; omega)
          intro v212 w30 ho hb hg hat; rw [← Ny211.out] at ho; have n0_ := ak (blk_grown (g := gb188) (o := .cells #[.int .i64 a1_0, .int .i64 a1_1] 49 (0, 0)) (uq BK188) hg (Kd.R_away HO206.out (fun _ hk => hk.2))); have n1_ := ak (Kd.R_after (ok := (fun k_ => k_ ≠ gb188)) (rq HO203) hg hat); have n2_ := ak (hb); have n3_ := ak (ho); clear BK188; clear HO203; clear HB; clear HO206; have BK188 := n0_; have HO203 := n1_; have HB := n2_; have HO213 := n3_; clear n0_ n1_ n2_ n3_; clear ho hb hg hat; refine hK.out _ _ ⟨(blk_cell BK188.out 0).trans rfl, (blk_cell BK188.out 1).trans rfl⟩ (fun hHeld => ?_); clear hK K; refine norm_ (a' := ?_) ?_ ?_; rotate_left
          ·show Act.put _ (some 31) _ = _
           simp only [Act.put, sA, sZ, sS, i64_w, i32_w]
           rfl
          refine pq_ (i := 12) (N := some 4) #[Y,Y,Y,Y,Y,Y,Y,Y,Y,Y,Y,Y,Y] HT_ ?_; refine done_ (done_of HT_.out (by kernel_rfl)) ?_; (try go_wp2); go_ret; exact ⟨_, eq_, by (with_reducible repeat (first | apply Kd.R_alloc | apply Kd.R_drewN | apply Kd.R_drew)); exact Kd.R_mono HO213.out (fun _ hk => trivial), bs⟩
         ·rw [if_neg c16] at H
          exact absurd H (by simp)
        ·rw [if_neg c13] at H
         exact absurd H (by simp)
       ·rw [if_neg c12] at H
        exact absurd H (by simp)
      ·rw [if_neg c11] at H
       exact absurd H (by simp)
    ·rw [if_neg c5] at H
     exact absurd H (by simp)
   ·rw [if_neg c4] at H
    have c4b0 := decide_eq_false c4; clear c4; obtain ⟨y214, hy214⟩ : ∃ y_ : List (S49), y_ = (([] : List (S49))) := ⟨_, rfl⟩
    replace H : (if 0 ≤ x5_1 then (if x5_1 ≤ (l0.length : Int) then ((some (l0.take (x5_1 : Int).toNat : List (S49))).bind fun y217 => (if y214.length + y217.length < 8796093022208 then ((some (y214 ++ y217 : List (S49))).bind fun y221 => ((some (([(⟨a1_0, a1_1⟩ : S49)] : List (S49)) : List (S49))).bind fun y224 => (if y221.length + y224.length < 8796093022208 then ((some (y221 ++ y224 : List (S49))).bind fun y227 => ((some (l0.drop (x5_1 : Int).toNat : List (S49))).bind fun y230 => (if y227.length + y230.length < 8796093022208 then (some (y227 ++ y230)) else (none)))) else (none)))) else (none))) else (none)) else (none)) = some r := by first | (rw [hy214]; with_reducible exact H) | (have H2_ := (Option.bind_some _ _).symm.trans H; rw [hy214]; with_reducible exact H2_) | (have H2_ := (Option.bind_some _ _).symm.trans H; with_reducible exact H2_) | with_reducible exact H | (rw [hy214]; exact H) | exact H
    have Ny214 := ak hy214; clear hy214
    by_cases c31 : 0 ≤ x5_1
    ·rw [if_pos c31] at H
     have c31b0 := eq_true c31; have c31b1 := decide_eq_true c31; clear c31
     by_cases c32 : x5_1 ≤ (l0.length : Int)
     ·rw [if_pos c32] at H
      have c32b0 := eq_true c32; have c32b1 := decide_eq_true c32; clear c32; obtain ⟨y217, hy217⟩ : ∃ y_ : List (S49), y_ = (l0.take (x5_1 : Int).toNat) := ⟨_, rfl⟩
      replace H : (if y214.length + y217.length < 8796093022208 then ((some (y214 ++ y217 : List (S49))).bind fun y221 => ((some (([(⟨a1_0, a1_1⟩ : S49)] : List (S49)) : List (S49))).bind fun y224 => (if y221.length + y224.length < 8796093022208 then ((some (y221 ++ y224 : List (S49))).bind fun y227 => ((some (l0.drop (x5_1 : Int).toNat : List (S49))).bind fun y230 => (if y227.length + y230.length < 8796093022208 then (some (y227 ++ y230)) else (none)))) else (none)))) else (none)) = some r := by first | (rw [hy217]; with_reducible exact H) | (have H2_ := (Option.bind_some _ _).symm.trans H; rw [hy217]; with_reducible exact H2_) | (have H2_ := (Option.bind_some _ _).symm.trans H; with_reducible exact H2_) | with_reducible exact H | (rw [hy217]; exact H) | exact H
      have Ny217 := ak hy217; clear hy217
      by_cases c33 : y214.length + y217.length < 8796093022208
      ·rw [if_pos c33] at H
       have LMc33 := ak c33; clear c33; obtain ⟨y221, hy221⟩ : ∃ y_ : List (S49), y_ = (y214 ++ y217) := ⟨_, rfl⟩
       replace H : ((some (([(⟨a1_0, a1_1⟩ : S49)] : List (S49)) : List (S49))).bind fun y224 => (if y221.length + y224.length < 8796093022208 then ((some (y221 ++ y224 : List (S49))).bind fun y227 => ((some (l0.drop (x5_1 : Int).toNat : List (S49))).bind fun y230 => (if y227.length + y230.length < 8796093022208 then (some (y227 ++ y230)) else (none)))) else (none))) = some r := by first | (rw [hy221]; with_reducible exact H) | (have H2_ := (Option.bind_some _ _).symm.trans H; rw [hy221]; with_reducible exact H2_) | (have H2_ := (Option.bind_some _ _).symm.trans H; with_reducible exact H2_) | with_reducible exact H | (rw [hy221]; exact H) | exact H
       have Ny221 := ak hy221; clear hy221; obtain ⟨y224, hy224⟩ : ∃ y_ : List (S49), y_ = (([(⟨a1_0, a1_1⟩ : S49)] : List (S49))) := ⟨_, rfl⟩
       replace H : (if y221.length + y224.length < 8796093022208 then ((some (y221 ++ y224 : List (S49))).bind fun y227 => ((some (l0.drop (x5_1 : Int).toNat : List (S49))).bind fun y230 => (if y227.length + y230.length < 8796093022208 then (some (y227 ++ y230)) else (none)))) else (none)) = some r := by first | (rw [hy224]; with_reducible exact H) | (have H2_ := (Option.bind_some _ _).symm.trans H; rw [hy224]; with_reducible exact H2_) | (have H2_ := (Option.bind_some _ _).symm.trans H; with_reducible exact H2_) | with_reducible exact H | (rw [hy224]; exact H) | exact H
       have Ny224 := ak hy224; clear hy224
       by_cases c34 : y221.length + y224.length < 8796093022208
       ·rw [if_pos c34] at H
        have LMc34 := ak c34; clear c34; obtain ⟨y227, hy227⟩ : ∃ y_ : List (S49), y_ = (y221 ++ y224) := ⟨_, rfl⟩
        replace H : ((some (l0.drop (x5_1 : Int).toNat : List (S49))).bind fun y230 => (if y227.length + y230.length < 8796093022208 then (some (y227 ++ y230)) else (none))) = some r := by first | (rw [hy227]; with_reducible exact H) | (have H2_ := (Option.bind_some _ _).symm.trans H; rw [hy227]; with_reducible exact H2_) | (have H2_ := (Option.bind_some _ _).symm.trans H; with_reducible exact H2_) | with_reducible exact H | (rw [hy227]; exact H) | exact H
        have Ny227 := ak hy227; clear hy227; have c35b0 := eq_true (dq : 0 ≤ x5_1); have c36b0 := eq_true (dq : x5_1 ≤ (l0.length : Int)); obtain ⟨y230, hy230⟩ : ∃ y_ : List (S49), y_ = (l0.drop (x5_1 : Int).toNat) := ⟨_, rfl⟩
        replace H : (if y227.length + y230.length < 8796093022208 then (some (y227 ++ y230)) else (none)) = some r := by first | (rw [hy230]; with_reducible exact H) | (have H2_ := (Option.bind_some _ _).symm.trans H; rw [hy230]; with_reducible exact H2_) | (have H2_ := (Option.bind_some _ _).symm.trans H; with_reducible exact H2_) | with_reducible exact H | (rw [hy230]; exact H) | exact H
        have Ny230 := ak hy230; clear hy230
        by_cases c37 : y227.length + y230.length < 8796093022208
        ·rw [if_pos c37] at H
         have LMc37 := ak c37; clear c37; obtain ⟨y234, hy234⟩ : ∃ y_ : List (S49), y_ = (y227 ++ y230) := ⟨_, rfl⟩
         replace H : (some y234) = some r := by first | (rw [hy234]; with_reducible exact H) | (have H2_ := (Option.bind_some _ _).symm.trans H; rw [hy234]; with_reducible exact H2_) | (have H2_ := (Option.bind_some _ _).symm.trans H; with_reducible exact H2_) | with_reducible exact H | (rw [hy234]; exact H) | exact H
         have Ny234 := ak hy234; clear hy234; obtain rfl := Option.some.inj H; (try go_wp2); have n0_ := ak (blk_drew BK188.out); have n1_ := ak (below_drew1 HB.out); clear BK188; clear HB; have BK188 := n0_; have HB := n1_; clear n0_ n1_; refine start_ (n := 12) (S := fun w' => True) (ds := []) #[Z,Z,Z,Z,Z,Z,Z,Z,Z,Z,Z,Z] (by kernel_rfl) rfl rfl trivial (fun hHeld => ?_); refine with_tabW spec_l8Put.tab2 spec_l8Put.bits2 (fun HT_ HW_ => ?_)
         generalize wr.drew = w38 at BK188 HB hHeld ⊢
         refine pq_ (i := 0) (N := some 6) #[Y,Z,Z,Z,Z,Z,Z,Z,Z,Z,Z,Z] HT_ ?_; refine pq_ (i := 1) (N := some 7) #[Y,Y,Z,Z,Z,Z,Z,Z,Z,Z,Z,Z] HT_ ?_; refine pq_ (i := 2) (N := some 8) #[Y,Y,Y,Z,Z,Z,Z,Z,Z,Z,Z,Z] HT_ ?_; refine pq_ (i := 3) (N := some 9) #[Y,Y,Y,Y,Z,Z,Z,Z,Z,Z,Z,Z] HT_ ?_; refine pq_ (i := 4) (N := some 10) #[Y,Y,Y,Y,Y,Z,Z,Z,Z,Z,Z,Z] HT_ ?_; refine pz_ (i := 5) (N := some 11) (v := undef) #[Y,Y,Y,Y,Y,Y,Z,Z,Z,Z,Z,Z] HT_ ?_; refine pz_ (i := 6) (N := some 12) (v := undef) #[Y,Y,Y,Y,Y,Y,Y,Z,Z,Z,Z,Z] HT_ ?_; refine pz_ (i := 7) (N := some 13) (v := undef) #[Y,Y,Y,Y,Y,Y,Y,Y,Z,Z,Z,Z] HT_ ?_; refine pz_ (i := 8) (N := some 14) (v := undef) #[Y,Y,Y,Y,Y,Y,Y,Y,Y,Z,Z,Z] HT_ ?_; refine pz_ (i := 9) (N := some 15) (v := undef) #[Y,Y,Y,Y,Y,Y,Y,Y,Y,Y,Z,Z] HT_ ?_; refine pz_ (i := 10) (N := some 16) (v := undef) #[Y,Y,Y,Y,Y,Y,Y,Y,Y,Y,Y,Z] HT_ ?_; refine pq_ (i := 11) (N := some 17) #[Y,Y,Y,Y,Y,Y,Y,Y,Y,Y,Y,Y] HT_ ?_; refine done_ (done_of HT_.out (by kernel_rfl)) ?_; (try go_wp2); have n0_ := ak (blk_drew BK188.out); have n1_ := ak (below_drew1 HB.out); clear BK188; clear HB; have BK188 := n0_; have HB := n1_; clear n0_ n1_; have q40 : (x5_1 : Int) ≤ ((l0.length : Int) : Int) := dq; obtain ⟨i040, hi040, _, hsz40, _⟩ := info_parts info49; have hroom40 : l0.length ≤ c0 := HC0.out; have hC40 : Kd.C k49 _ A0 l0.length l0 := HR0.out; have hcut40 := cut_to (P := Try.prog) 22 49 .i64 Try.underlying22 hi040 A0 l0.length c0 x5_1 (dq) q40 hroom40; have hr40 := Kd.C_take (m := (x5_1 : Int).toNat) hC40 (by omega); have hy40 : y217.length = (x5_1 : Int).toNat := (by rw [Ny217.out, List.length_take]; omega); rw [← Ny217.out] at hr40; rw [← hy40] at hcut40; have HR220 := ak hr40; have HC220 := ak (show y217.length ≤ c0 from by omega); clear hr40 hC40 hroom40 hi040 hsz40; have KY40 := ak hy40; clear hy40; replace q40 := eq_true q40; have q41 : (x5_1 : Int) ≤ ((l0.length : Int) : Int) := dq; obtain ⟨i041, hi041, _, hsz41, _⟩ := info_parts info49; have hroom41 : l0.length ≤ c0 := HC0.out; have hC41 : Kd.C k49 _ A0 l0.length l0 := HR0.out; have q041 : (0 : Int) ≤ (x5_1 : Int) := dq; have hcut41 := cut_from (P := Try.prog) 22 49 .i64 Try.underlying22 hi041 2 hsz41 A0 l0.length c0 x5_1 q041 q41; have hr41 := Kd.C_drop (m := (x5_1 : Int).toNat) (c := c0) hC41 (by omega) hroom41; obtain ⟨A41, hA41⟩ : ∃ A1, A1 = (if c0 = (x5_1 : Int).toNat then A0 else (A0 : Option Addr).map (·.add ((x5_1 : Int).toNat * 2))) := ⟨_, rfl⟩; obtain ⟨c41, hc41⟩ : ∃ c1, c1 = c0 - (x5_1 : Int).toNat := ⟨_, rfl⟩; have hy41 : y230.length = l0.length - (x5_1 : Int).toNat := (by rw [Ny230.out, List.length_drop] <;> omega); rw [show (l0).drop (x5_1 : Int).toNat = y230 from Ny230.out.symm] at hr41; replace hr41 : Kd.C k49 _ A41 y230.length y230 := (by rw [hA41]; exact hr41); rw [← hy41, ← hA41, ← hc41] at hcut41; have HR233 := ak hr41; have HC233 := ak (show y230.length ≤ c41 from by rw [hy41, hc41]; exact Nat.sub_le_sub_right hroom41 _); clear hr41 hC41 hroom41 hi041 hsz41 hc41; have KY41 := ak hy41; have KA41 := ak hA41
         clear hy41 hA41; replace q41 := eq_true q41; refine start_ (n := 13) (S := fun w' => w'.cell? ⟨gb188, 0, none⟩ = some (.int .i64 a1_0) ∧ w'.cell? ⟨gb188, 1, none⟩ = some (.int .i64 a1_1)) (ds := []) #[Z,Z,Z,Z,Z,Z,Z,Z,Z,Z,Z,Z,Z] (by kernel_rfl) rfl rfl ⟨(blk_cell BK188.out 0).trans rfl, (blk_cell BK188.out 1).trans rfl⟩ (fun hHeld => ?_); refine with_tabW spec_l8Put.tab4 spec_l8Put.bits4 (fun HT_ HW_ => ?_)
         generalize w38.drew = w39 at BK188 HB HR220 HR233 hHeld ⊢
         refine pq_ (i := 1) (N := some 21) #[Z,Y,Z,Z,Z,Z,Z,Z,Z,Z,Z,Z,Z] HT_ ?_; refine pq_ (i := 2) (N := some 22) #[Z,Y,Y,Z,Z,Z,Z,Z,Z,Z,Z,Z,Z] HT_ ?_; refine pq_ (i := 3) (N := some 23) #[Z,Y,Y,Y,Z,Z,Z,Z,Z,Z,Z,Z,Z] HT_ ?_; refine pq_ (i := 8) (N := some 28) #[Z,Y,Y,Y,Z,Z,Z,Z,Y,Z,Z,Z,Z] HT_ ?_; refine pq_ (i := 9) (N := some 29) #[Z,Y,Y,Y,Z,Z,Z,Z,Y,Y,Z,Z,Z] HT_ ?_; refine pq_ (i := 10) (N := some 30) #[Z,Y,Y,Y,Z,Z,Z,Z,Y,Y,Y,Z,Z] HT_ ?_; refine tk_ (i := 5) (N := some 25) #[Z,Y,Y,Y,Z,Y,Z,Z,Y,Y,Y,Z,Z] HT_ HW_ hHeld ?_; refine join_ (σ := Value × Value × Value) 3 #[Y,Y,Y,Y,Y,Y,Y,Z,Y,Y,Y,Z,Z] (fun s_ => [(20, s_.1), (24, s_.2.1), (26, s_.2.2)]) (fun s_ w' => (w'.cell? ⟨gb188, 0, none⟩ = some (.int .i64 a1_0) ∧ w'.cell? ⟨gb188, 1, none⟩ = some (.int .i64 a1_1)) ∧ (Kd.R k49 49 w' w.heap.size (fun k_ => some k_ ≠ (s_.2.2 : Value).ownBlock ∧ k_ ≠ gb188) s_.2.1 y221) ∧ (Kd.R k49 49 w' w.heap.size (fun k_ => some k_ ≠ (s_.2.1 : Value).ownBlock ∧ k_ ≠ gb188) s_.2.2 y224) ∧ (w'.heap[gb188]? = some (.cells #[.int .i64 a1_0, .int .i64 a1_1] 49 (0, 0))) ∧ (Below w.heap.size w w')) ?_ ?_; rotate_left
         ·intro hCont
          refine two_ (i := 0) (j := 6) (Ni := some 20) (Nj := some 26) #[Y,Y,Y,Y,Z,Y,Z,Z,Y,Y,Y,Z,Z] #[Z,Y,Y,Y,Z,Y,Y,Z,Y,Y,Y,Z,Z] rfl rfl rfl rfl (two_of HT_.out (by kernel_rfl)) (by decide) (by decide) (fun K hK => ?_) (fun K hK => ?_)
          ·skip
           refine Kd.R_lit_step k49 _ 49 ?hg (N := 20) ?hd (xs := ([] : List (S49))) (inner := []) (ok := fun _ => True) (okp := fun _ => True) ?hr ?hp (fun _ hk => hk) trivial (Below.refl _ _) (Nat.le_refl _) (by simp) ?_; (case hd => rfl); (case hg => rfl); (case hr => first | (go_simp; done) | (go_simp; rfl)); (case hp => exact (Reps.none _ _)); intro v215 w42 ho43 hb hg_ hnew_; clear hg_ hnew_
           (first | rw [← Ny214.out] at ho43 | (simp only [Int.reduceToNat] at ho43; rw [← Ny214.out] at ho43))
           have n0_ := ak (Kd.R_lower (Kd.R_newB ho43 (g := gb188) (o := .cells #[.int .i64 a1_0, .int .i64 a1_1] 49 (0, 0)) (uq BK188)) (below_size bs)); have n1_ := ak (blk_below (g := gb188) (o := .cells #[.int .i64 a1_0, .int .i64 a1_1] 49 (0, 0)) (uq BK188) hb); have n2_ := ak (below_step bs hb); clear BK188; clear HB; have HO216 := n0_; have BK188 := n1_; have HB := n2_; clear n0_ n1_ n2_; clear hb ho43; refine hK.out _ _ ⟨(blk_cell BK188.out 0).trans rfl, (blk_cell BK188.out 1).trans rfl⟩ (fun hHeld => ?_); clear hK K; refine norm_ (a' := ?_) ?_ ?_; rotate_left
           ·show Act.put _ (some 20) _ = _
            simp only [Act.put, sA, sZ, sS, i64_w, i32_w]
            rfl
           refine two_ (i := 4) (j := 6) (Ni := some 24) (Nj := some 26) #[Y,Y,Y,Y,Y,Y,Z,Z,Y,Y,Y,Z,Z] #[Y,Y,Y,Y,Z,Y,Y,Z,Y,Y,Y,Z,Z] rfl rfl rfl rfl (two_of HT_.out (by kernel_rfl)) (by decide) (by decide) (fun K hK => ?_) (fun K hK => ?_)
           ·skip
            refine Kd.R_append_rows_step k49 (w0 := w) w.heap.size (by rfl) (.tmp 20) (.tmp 23) 22 49 (.agg #[(.int .i64 0), (.int .i64 0)]) 16 rfl Try.underlying22 info49 rfl (by decide) (by omega) v215 y214 y217 _ _ _ (fun k_ => k_ ≠ gb188) (fun _ => False) rfl rfl ?aO ?aR (fun _ _ h => h) (fun _ h => h.elim) ?aF ?aB ?aS ?aL ?_
            (case aR => exact cq (Kd.C_below HR220.out HB.out))
            (case aB => exact bs)
            (case aF => exact (fun k_ hk => Kd.freshB (g := gb188) (o := .cells #[.int .i64 a1_0, .int .i64 a1_1] 49 (0, 0)) (uq BK188) k_ hk))
            (case aO => exact (by (with_reducible repeat (first | apply Kd.R_alloc | apply Kd.R_drewN | apply Kd.R_drew)); exact Kd.R_mono HO216.out (fun _ hk => hk.2)))
            (case aS => exact (below_size bs))
            (case aL => have := LMc33.out; omega)
            intro v222 w44 ho hb hg hat; rw [← Ny221.out] at ho; have n0_ := ak (blk_grown (g := gb188) (o := .cells #[.int .i64 a1_0, .int .i64 a1_1] 49 (0, 0)) (uq BK188) hg (Kd.R_away HO216.out (fun _ hk => hk.2))); have n1_ := ak (hb); have n2_ := ak (ho); clear BK188; clear HB; clear HO216; have BK188 := n0_; have HB := n1_; have HO223 := n2_; clear n0_ n1_ n2_; clear ho hb hg hat; refine hK.out _ _ ⟨(blk_cell BK188.out 0).trans rfl, (blk_cell BK188.out 1).trans rfl⟩ (fun hHeld => ?_); clear hK K; refine norm_ (a' := ?_) ?_ ?_; rotate_left
            ·show Act.put _ (some 24) _ = _
             simp only [Act.put, sA, sZ, sS, i64_w, i32_w]
             rfl
            refine one_ (i := 6) (N := some 26) #[Y,Y,Y,Y,Y,Y,Y,Z,Y,Y,Y,Z,Z] rfl rfl (one_of HT_.out (by kernel_rfl)) (by decide) (fun K hK => ?_); refine Kd.R_lit_step k49 _ 49 ?hg (N := 26) ?hd (xs := ([(⟨a1_0, a1_1⟩ : S49)] : List (S49))) (inner := [.int .i64 a1_0, .int .i64 a1_1]) (ok := fun _ => True) (okp := fun _ => True) ?hr ?hp (fun _ hk => hk) trivial (Below.refl _ _) (Nat.le_refl _) (by simp) ?_; (case hd => rfl); (case hg => rfl); (case hr => first | (go_simp; done) | (go_simp; rfl)); (case hp => exact (Reps.c2 (show Kd.M k49 _ _ _ (⟨a1_0, a1_1⟩ : S49) [.int .i64 a1_0, .int .i64 a1_1] from (k49_mkM _ _ _ (⟨a1_0, a1_1⟩ : S49) )) (Reps.none _ _))); intro v225 w45 ho46 hb hg_ hnew_; clear hg_ hnew_
            (first | rw [← Ny224.out] at ho46 | (simp only [Int.reduceToNat] at ho46; rw [← Ny224.out] at ho46))
            have n0_ := ak (Kd.R_elder' (rq HO223) (Kd.R_base ho46) hb); have n1_ := ak (Kd.R_lower (Kd.R_newB (Kd.R_new' ho46 (Kd.R_lt (rq HO223))) (g := gb188) (o := .cells #[.int .i64 a1_0, .int .i64 a1_1] 49 (0, 0)) (uq BK188)) (below_size bs)); have n2_ := ak (blk_below (g := gb188) (o := .cells #[.int .i64 a1_0, .int .i64 a1_1] 49 (0, 0)) (uq BK188) hb); have n3_ := ak (below_step bs hb); clear HO223; clear BK188; clear HB; have HO223 := n0_; have HO226 := n1_; have BK188 := n2_; have HB := n3_; clear n0_ n1_ n2_ n3_; clear hb ho46; refine hK.out _ _ ⟨(blk_cell BK188.out 0).trans rfl, (blk_cell BK188.out 1).trans rfl⟩ (fun hHeld => ?_); clear hK K; refine norm_ (a' := ?_) ?_ ?_; rotate_left
            ·show Act.put _ (some 26) _ = _
             simp only [Act.put, sA, sZ, sS, i64_w, i32_w]
             rfl
            exact norm_ (by simp only [putAll, Act.put, List.setIfInBounds_toArray, List.set_cons_zero, List.set_cons_succ]) (hCont (v215, v222, v225) _ ⟨hHeld, (by (with_reducible repeat (first | apply Kd.R_alloc | apply Kd.R_drewN | apply Kd.R_drew)); exact Kd.R_mono HO223.out (fun _ hk => ⟨hk.2, hk.1⟩)), (by (with_reducible repeat (first | apply Kd.R_alloc | apply Kd.R_drewN | apply Kd.R_drew)); exact Kd.R_mono HO226.out (fun _ hk => ⟨hk.1.2, hk.2⟩)), (uq BK188), bs⟩)
           ·skip
            refine Kd.R_lit_step k49 _ 49 ?hg (N := 26) ?hd (xs := ([(⟨a1_0, a1_1⟩ : S49)] : List (S49))) (inner := [.int .i64 a1_0, .int .i64 a1_1]) (ok := fun _ => True) (okp := fun _ => True) ?hr ?hp (fun _ hk => hk) trivial (Below.refl _ _) (Nat.le_refl _) (by simp) ?_; (case hd => rfl); (case hg => rfl); (case hr => first | (go_simp; done) | (go_simp; rfl)); (case hp => exact (Reps.c2 (show Kd.M k49 _ _ _ (⟨a1_0, a1_1⟩ : S49) [.int .i64 a1_0, .int .i64 a1_1] from (k49_mkM _ _ _ (⟨a1_0, a1_1⟩ : S49) )) (Reps.none _ _))); intro v225 w44 ho45 hb hg_ hnew_; clear hg_ hnew_
            (first | rw [← Ny224.out] at ho45 | (simp only [Int.reduceToNat] at ho45; rw [← Ny224.out] at ho45))
            have n0_ := ak (Kd.R_elder' (rq HO216) (Kd.R_base ho45) hb); have n1_ := ak (Kd.R_lower (Kd.R_newB (Kd.R_new' ho45 (Kd.R_lt (rq HO216))) (g := gb188) (o := .cells #[.int .i64 a1_0, .int .i64 a1_1] 49 (0, 0)) (uq BK188)) (below_size bs)); have n2_ := ak (blk_below (g := gb188) (o := .cells #[.int .i64 a1_0, .int .i64 a1_1] 49 (0, 0)) (uq BK188) hb); have n3_ := ak (below_step bs hb); clear HO216; clear BK188; clear HB; have HO216 := n0_; have HO226 := n1_; have BK188 := n2_; have HB := n3_; clear n0_ n1_ n2_ n3_; clear hb ho45; refine hK.out _ _ ⟨(blk_cell BK188.out 0).trans rfl, (blk_cell BK188.out 1).trans rfl⟩ (fun hHeld => ?_); clear hK K; refine norm_ (a' := ?_) ?_ ?_; rotate_left
            ·show Act.put _ (some 26) _ = _
             simp only [Act.put, sA, sZ, sS, i64_w, i32_w]
             rfl
            refine one_ (i := 4) (N := some 24) #[Y,Y,Y,Y,Y,Y,Y,Z,Y,Y,Y,Z,Z] rfl rfl (one_of HT_.out (by kernel_rfl)) (by decide) (fun K hK => ?_); refine Kd.R_append_rows_step k49 (w0 := w) w.heap.size (by rfl) (.tmp 20) (.tmp 23) 22 49 (.agg #[(.int .i64 0), (.int .i64 0)]) 16 rfl Try.underlying22 info49 rfl (by decide) (by omega) v215 y214 y217 _ _ _ (fun k_ => some k_ ≠ (v225 : Value).ownBlock ∧ k_ ≠ gb188) (fun _ => False) rfl rfl ?aO ?aR (fun _ _ h => h) (fun _ h => h.elim) ?aF ?aB ?aS ?aL ?_
            (case aR => exact cq (Kd.C_below HR220.out HB.out))
            (case aB => exact bs)
            (case aF => exact (fun k_ hk => ⟨Kd.fresh' (Kd.R_lt (rq HO226)) k_ hk, Kd.freshB (g := gb188) (o := .cells #[.int .i64 a1_0, .int .i64 a1_1] 49 (0, 0)) (uq BK188) k_ hk⟩))
            (case aO => exact (by (with_reducible repeat (first | apply Kd.R_alloc | apply Kd.R_drewN | apply Kd.R_drew)); exact Kd.R_mono HO216.out (fun _ hk => ⟨hk.2, hk.1.2⟩)))
            (case aS => exact (below_size bs))
            (case aL => have := LMc33.out; omega)
            intro v222 w46 ho hb hg hat; rw [← Ny221.out] at ho; have n0_ := ak (blk_grown (g := gb188) (o := .cells #[.int .i64 a1_0, .int .i64 a1_1] 49 (0, 0)) (uq BK188) hg (Kd.R_away HO216.out (fun _ hk => hk.1.2))); have n1_ := ak (Kd.R_after (ok := (fun k_ => k_ ≠ gb188)) (by (with_reducible repeat (first | apply Kd.R_alloc | apply Kd.R_drewN | apply Kd.R_drew)); exact Kd.R_mono HO226.out (fun _ hk => ⟨hk.2, hk.1.2⟩)) hg hat); have n2_ := ak (hb); have n3_ := ak (ho); clear BK188; clear HO226; clear HB; clear HO216; have BK188 := n0_; have HO226 := n1_; have HB := n2_; have HO223 := n3_; clear n0_ n1_ n2_ n3_; clear ho hb hg hat; refine hK.out _ _ ⟨(blk_cell BK188.out 0).trans rfl, (blk_cell BK188.out 1).trans rfl⟩ (fun hHeld => ?_); clear hK K; refine norm_ (a' := ?_) ?_ ?_; rotate_left
            ·show Act.put _ (some 24) _ = _
             simp only [Act.put, sA, sZ, sS, i64_w, i32_w]
             rfl
            exact norm_ (by simp only [putAll, Act.put, List.setIfInBounds_toArray, List.set_cons_zero, List.set_cons_succ]) (hCont (v215, v222, v225) _ ⟨hHeld, (rq HO223), (by (with_reducible repeat (first | apply Kd.R_alloc | apply Kd.R_drewN | apply Kd.R_drew)); exact Kd.R_mono HO226.out (fun _ hk => ⟨hk.2, hk.1⟩)), (uq BK188), bs⟩)
          ·skip
           refine Kd.R_lit_step k49 _ 49 ?hg (N := 26) ?hd (xs := ([(⟨a1_0, a1_1⟩ : S49)] : List (S49))) (inner := [.int .i64 a1_0, .int .i64 a1_1]) (ok := fun _ => True) (okp := fun _ => True) ?hr ?hp (fun _ hk => hk) trivial (Below.refl _ _) (Nat.le_refl _) (by simp) ?_; (case hd => rfl); (case hg => rfl); (case hr => first | (go_simp; done) | (go_simp; rfl)); (case hp => exact (Reps.c2 (show Kd.M k49 _ _ _ (⟨a1_0, a1_1⟩ : S49) [.int .i64 a1_0, .int .i64 a1_1] from (k49_mkM _ _ _ (⟨a1_0, a1_1⟩ : S49) )) (Reps.none _ _))); intro v225 w42 ho43 hb hg_ hnew_; clear hg_ hnew_
           (first | rw [← Ny224.out] at ho43 | (simp only [Int.reduceToNat] at ho43; rw [← Ny224.out] at ho43))
           have n0_ := ak (Kd.R_lower (Kd.R_newB ho43 (g := gb188) (o := .cells #[.int .i64 a1_0, .int .i64 a1_1] 49 (0, 0)) (uq BK188)) (below_size bs)); have n1_ := ak (blk_below (g := gb188) (o := .cells #[.int .i64 a1_0, .int .i64 a1_1] 49 (0, 0)) (uq BK188) hb); have n2_ := ak (below_step bs hb); clear BK188; clear HB; have HO226 := n0_; have BK188 := n1_; have HB := n2_; clear n0_ n1_ n2_; clear hb ho43; refine hK.out _ _ ⟨(blk_cell BK188.out 0).trans rfl, (blk_cell BK188.out 1).trans rfl⟩ (fun hHeld => ?_); clear hK K; refine norm_ (a' := ?_) ?_ ?_; rotate_left
           ·show Act.put _ (some 26) _ = _
            simp only [Act.put, sA, sZ, sS, i64_w, i32_w]
            rfl
           refine one_ (i := 0) (N := some 20) #[Y,Y,Y,Y,Z,Y,Y,Z,Y,Y,Y,Z,Z] rfl rfl (one_of HT_.out (by kernel_rfl)) (by decide) (fun K hK => ?_); refine Kd.R_lit_step k49 _ 49 ?hg (N := 20) ?hd (xs := ([] : List (S49))) (inner := []) (ok := fun _ => True) (okp := fun _ => True) ?hr ?hp (fun _ hk => hk) trivial (Below.refl _ _) (Nat.le_refl _) (by simp) ?_; (case hd => rfl); (case hg => rfl); (case hr => first | (go_simp; done) | (go_simp; rfl)); (case hp => exact (Reps.none _ _)); intro v215 w44 ho45 hb hg_ hnew_; clear hg_ hnew_
           (first | rw [← Ny214.out] at ho45 | (simp only [Int.reduceToNat] at ho45; rw [← Ny214.out] at ho45))
           have n0_ := ak (Kd.R_elder' (rq HO226) (Kd.R_base ho45) hb); have n1_ := ak (Kd.R_lower (Kd.R_newB (Kd.R_new' ho45 (Kd.R_lt (rq HO226))) (g := gb188) (o := .cells #[.int .i64 a1_0, .int .i64 a1_1] 49 (0, 0)) (uq BK188)) (below_size bs)); have n2_ := ak (blk_below (g := gb188) (o := .cells #[.int .i64 a1_0, .int .i64 a1_1] 49 (0, 0)) (uq BK188) hb); have n3_ := ak (below_step bs hb); clear HO226; clear BK188; clear HB; have HO226 := n0_; have HO216 := n1_; have BK188 := n2_; have HB := n3_; clear n0_ n1_ n2_ n3_; clear hb ho45; refine hK.out _ _ ⟨(blk_cell BK188.out 0).trans rfl, (blk_cell BK188.out 1).trans rfl⟩ (fun hHeld => ?_); clear hK K; refine norm_ (a' := ?_) ?_ ?_; rotate_left
           ·show Act.put _ (some 20) _ = _
            simp only [Act.put, sA, sZ, sS, i64_w, i32_w]
            rfl
           refine one_ (i := 4) (N := some 24) #[Y,Y,Y,Y,Y,Y,Y,Z,Y,Y,Y,Z,Z] rfl rfl (one_of HT_.out (by kernel_rfl)) (by decide) (fun K hK => ?_); refine Kd.R_append_rows_step k49 (w0 := w) w.heap.size (by rfl) (.tmp 20) (.tmp 23) 22 49 (.agg #[(.int .i64 0), (.int .i64 0)]) 16 rfl Try.underlying22 info49 rfl (by decide) (by omega) v215 y214 y217 _ _ _ (fun k_ => some k_ ≠ (v225 : Value).ownBlock ∧ k_ ≠ gb188) (fun _ => False) rfl rfl ?aO ?aR (fun _ _ h => h) (fun _ h => h.elim) ?aF ?aB ?aS ?aL ?_
           (case aR => exact cq (Kd.C_below HR220.out HB.out))
           (case aB => exact bs)
           (case aF => exact (fun k_ hk => ⟨Kd.fresh' (Kd.R_lt (rq HO226)) k_ hk, Kd.freshB (g := gb188) (o := .cells #[.int .i64 a1_0, .int .i64 a1_1] 49 (0, 0)) (uq BK188) k_ hk⟩))
           (case aO => exact (by (with_reducible repeat (first | apply Kd.R_alloc | apply Kd.R_drewN | apply Kd.R_drew)); exact Kd.R_mono HO216.out (fun _ hk => ⟨hk.1.2, hk.2⟩)))
           (case aS => exact (below_size bs))
           (case aL => have := LMc33.out; omega)
           intro v222 w46 ho hb hg hat; rw [← Ny221.out] at ho; have n0_ := ak (blk_grown (g := gb188) (o := .cells #[.int .i64 a1_0, .int .i64 a1_1] 49 (0, 0)) (uq BK188) hg (Kd.R_away HO216.out (fun _ hk => hk.2))); have n1_ := ak (Kd.R_after (ok := (fun k_ => k_ ≠ gb188)) (by (with_reducible repeat (first | apply Kd.R_alloc | apply Kd.R_drewN | apply Kd.R_drew)); exact Kd.R_mono HO226.out (fun _ hk => ⟨hk.1.2, hk.2⟩)) hg hat); have n2_ := ak (hb); have n3_ := ak (ho); clear BK188; clear HO226; clear HB; clear HO216; have BK188 := n0_; have HO226 := n1_; have HB := n2_; have HO223 := n3_; clear n0_ n1_ n2_ n3_; clear ho hb hg hat; refine hK.out _ _ ⟨(blk_cell BK188.out 0).trans rfl, (blk_cell BK188.out 1).trans rfl⟩ (fun hHeld => ?_); clear hK K; refine norm_ (a' := ?_) ?_ ?_; rotate_left
           ·show Act.put _ (some 24) _ = _
            simp only [Act.put, sA, sZ, sS, i64_w, i32_w]
            rfl
           exact norm_ (by simp only [putAll, Act.put, List.setIfInBounds_toArray, List.set_cons_zero, List.set_cons_succ]) (hCont (v215, v222, v225) _ ⟨hHeld, (rq HO223), (by (with_reducible repeat (first | apply Kd.R_alloc | apply Kd.R_drewN | apply Kd.R_drew)); exact Kd.R_mono HO226.out (fun _ hk => ⟨hk.2, hk.1⟩)), (uq BK188), bs⟩)
         rintro ⟨v215, v222, v225⟩ w47 ⟨hS_, h0_, h1_, h2_, h3_⟩
         have n0_ : Aside0 (Kd.R k49 49 w47 w.heap.size (fun k_ => some k_ ≠ (v225 : Value).ownBlock ∧ k_ ≠ gb188) v222 y221) := ⟨h0_⟩; have n1_ : Aside0 (Kd.R k49 49 w47 w.heap.size (fun k_ => some k_ ≠ (v222 : Value).ownBlock ∧ k_ ≠ gb188) v225 y224) := ⟨h1_⟩; have n2_ : Aside0 (w47.heap[gb188]? = some (.cells #[.int .i64 a1_0, .int .i64 a1_1] 49 (0, 0))) := ⟨h2_⟩; have n3_ : Aside0 (Below w.heap.size w w47) := ⟨h3_⟩; clear BK188; clear HB; clear h0_ h1_ h2_ h3_; have HO223 := n0_; have HO226 := n1_; have BK188 := n2_; have HB := n3_; clear n0_ n1_ n2_ n3_; have hHeld : w47.cell? ⟨gb188, 0, none⟩ = some (.int .i64 a1_0) ∧ w47.cell? ⟨gb188, 1, none⟩ = some (.int .i64 a1_1) := hS_; obtain ⟨Ao49, co49, eo49⟩ := Kd.R_slice HO226.out
         (first | subst eo49 | (injection eo49 with f1_ f2_ f3_; have f4_ := f1_.symm; have f5_ := f3_.symm; clear f1_ f2_ f3_; subst f4_; subst f5_))
         refine norm_ (a' := ?_) ?_ ?_; rotate_left
         ·simp only [putAll, Act.put, List.setIfInBounds_toArray, List.set_cons_zero, List.set_cons_succ]
          rfl
         refine one_ (i := 7) (N := some 27) #[Y,Y,Y,Y,Y,Y,Y,Y,Y,Y,Y,Z,Z] rfl rfl (one_of HT_.out (by kernel_rfl)) (by decide) (fun K hK => ?_); refine Kd.R_append_rows_step k49 (w0 := w) w.heap.size (by rfl) (.tmp 24) (.tmp 26) 22 49 (.agg #[(.int .i64 0), (.int .i64 0)]) 16 rfl Try.underlying22 info49 rfl (by decide) (by omega) v222 y221 y224 _ _ _ (fun k_ => some k_ ≠ (.slice Ao49 y224.length co49 : Value).ownBlock ∧ k_ ≠ gb188) (fun _ => False) rfl rfl ?aO ?aR (fun _ _ h => h) (fun _ h => h.elim) ?aF ?aB ?aS ?aL ?_
         (case aR => exact cq (Kd.R_reads' HO226.out).2.2)
         (case aB => exact bs)
         (case aF => exact (fun k_ hk => ⟨Kd.fresh' (Kd.R_lt (rq HO226)) k_ hk, Kd.freshB (g := gb188) (o := .cells #[.int .i64 a1_0, .int .i64 a1_1] 49 (0, 0)) (uq BK188) k_ hk⟩))
         (case aO => exact (rq HO223))
         (case aS => exact (below_size bs))
         (case aL => have := LMc34.out; omega)
         intro v228 w48 ho hb hg hat; rw [← Ny227.out] at ho; have n0_ := ak (blk_grown (g := gb188) (o := .cells #[.int .i64 a1_0, .int .i64 a1_1] 49 (0, 0)) (uq BK188) hg (Kd.R_away HO223.out (fun _ hk => hk.2))); have n1_ := ak (Kd.R_after (ok := (fun k_ => k_ ≠ gb188)) (by (with_reducible repeat (first | apply Kd.R_alloc | apply Kd.R_drewN | apply Kd.R_drew)); exact Kd.R_mono HO226.out (fun _ hk => ⟨hk.2, hk.1⟩)) hg hat); have n2_ := ak (hb); have n3_ := ak (ho); clear BK188; clear HO226; clear HB; clear HO223; have BK188 := n0_; have HO226 := n1_; have HB := n2_; have HO229 := n3_; clear n0_ n1_ n2_ n3_; clear ho hb hg hat; refine hK.out _ _ ⟨(blk_cell BK188.out 0).trans rfl, (blk_cell BK188.out 1).trans rfl⟩ (fun hHeld => ?_); clear hK K; refine norm_ (a' := ?_) ?_ ?_; rotate_left
         ·show Act.put _ (some 27) _ = _
          simp only [Act.put, sA, sZ, sS, i64_w, i32_w]
          rfl
         refine one_ (i := 11) (N := some 31) #[Y,Y,Y,Y,Y,Y,Y,Y,Y,Y,Y,Y,Z] rfl rfl (one_of HT_.out (by kernel_rfl)) (by decide) (fun K hK => ?_); refine Kd.R_append_rows_step k49 (w0 := w) w.heap.size (by rfl) (.tmp 27) (.tmp 30) 22 49 (.agg #[(.int .i64 0), (.int .i64 0)]) 16 rfl Try.underlying22 info49 rfl (by decide) (by omega) v228 y227 y230 _ _ _ (fun k_ => some k_ ≠ (.slice Ao49 y224.length co49 : Value).ownBlock ∧ k_ ≠ gb188) (fun _ => False) rfl rfl ?aO ?aR (fun _ _ h => h) (fun _ h => h.elim) ?aF ?aB ?aS ?aL ?_
         (case aR => exact cq (Kd.C_below HR233.out HB.out))
         (case aB => exact bs)
         (case aF => exact (fun k_ hk => ⟨Kd.fresh' (Kd.R_lt (rq HO226)) k_ hk, Kd.freshB (g := gb188) (o := .cells #[.int .i64 a1_0, .int .i64 a1_1] 49 (0, 0)) (uq BK188) k_ hk⟩))
         (case aO => exact (rq HO229))
         (case aS => exact (below_size bs))
         (case aL => have := LMc37.out; omega)
         intro v235 w50 ho hb hg hat; rw [← Ny234.out] at ho; have n0_ := ak (blk_grown (g := gb188) (o := .cells #[.int .i64 a1_0, .int .i64 a1_1] 49 (0, 0)) (uq BK188) hg (Kd.R_away HO229.out (fun _ hk => hk.2))); have n1_ := ak (Kd.R_after (ok := (fun k_ => k_ ≠ gb188)) (rq HO226) hg hat); have n2_ := ak (hb); have n3_ := ak (ho); clear BK188; clear HO226; clear HB; clear HO229; have BK188 := n0_; have HO226 := n1_; have HB := n2_; have HO236 := n3_; clear n0_ n1_ n2_ n3_; clear ho hb hg hat; refine hK.out _ _ ⟨(blk_cell BK188.out 0).trans rfl, (blk_cell BK188.out 1).trans rfl⟩ (fun hHeld => ?_); clear hK K; refine norm_ (a' := ?_) ?_ ?_; rotate_left
         ·show Act.put _ (some 31) _ = _
          simp only [Act.put, sA, sZ, sS, i64_w, i32_w]
          rfl
         refine pq_ (i := 12) (N := some 4) #[Y,Y,Y,Y,Y,Y,Y,Y,Y,Y,Y,Y,Y] HT_ ?_; refine done_ (done_of HT_.out (by kernel_rfl)) ?_; (try go_wp2); go_ret; exact ⟨_, eq_, by (with_reducible repeat (first | apply Kd.R_alloc | apply Kd.R_drewN | apply Kd.R_drew)); exact Kd.R_mono HO236.out (fun _ hk => trivial), bs⟩
        ·rw [if_neg c37] at H
         exact absurd H (by simp)
       ·rw [if_neg c34] at H
        exact absurd H (by simp)
      ·rw [if_neg c33] at H
       exact absurd H (by simp)
     ·rw [if_neg c32] at H
      exact absurd H (by simp)
    ·rw [if_neg c31] at H
     exact absurd H (by simp)

end Go.Proofs.Ytckhmeadflafaaa.XCb
