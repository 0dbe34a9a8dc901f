/- Functions of the program as plain Lean functions, each with the proof that the machine's call does what it says: written by a program of this session out of the translation. -/
import Derived.Test.YtkedfmmmjopofaaXSex0
import Derived.Test.YtkedfmmmjopofaaXSex5
import Derived.Test.YtkedfmmmjopofaaXSex7
import Derived.Test.YtkedfmmmjopofaaXSex8
import Derived.Test.YtkedfmmmjopofaaXSex9
namespace Go.Proofs.Ytkedfmmmjopofaa.XSe
open Go.RowKit Go.Proofs.YtkedfmmmjopofaaW.PrintWords Go.Proofs.YtkedfmmmjopofaaW.PrintLast Go.Proofs.YtkedfmmmjopofaaW.PrintMore
attribute [local go_sem] max2_int min2_int max_two min_two max_three min_three max_four min_four   -- for this text's walks alone
set_option linter.unusedVariables false
set_option linter.unusedSimpArgs false

/-! ### impl_eachEven_CountEven_1: function 63, by hand -/
mutual
/-- All seats from one weight on. -/
def impl_eachEven_CountEven_1.fr : Nat → List Int → Int → List Int → Int → Int → Int → Option (Bool × List Int × Int)
 | 0, _, _, _, _, _, _ => none
 | k + 1, ws, kk, st, at_, m, s => if at_ = (ws.length : Int) then (if m = 0 then ((impl_CountEven_1.f st s).bind fun r => some (r.1, st, r.2)) else some (true, st, s)) else impl_eachEven_CountEven_1.lp k ws kk st at_ m s (wrap64 (30 - kk))
def impl_eachEven_CountEven_1.lp : Nat → List Int → Int → List Int → Int → Int → Int → Int → Option (Bool × List Int × Int)
 | 0, _, _, _, _, _, _, _ => none
 | k + 1, ws, kk, st, at_, m, s, p => if p ≤ wrap64 (30 + kk) then (if p = 30 then impl_eachEven_CountEven_1.lp k ws kk st at_ m s (wrap64 (p + 1)) else (if 0 ≤ at_ then (if at_ < (st.length : Int) then (if at_ < (ws.length : Int) then ((slices_Contains.f k (st.take at_.toNat) p).bind fun c => if c = true then impl_eachEven_CountEven_1.lp k ws kk st at_ m s (wrap64 (p + 1)) else ((impl_eachEven_CountEven_1.fr k ws kk (st.set at_.toNat p) (wrap64 (at_ + 1)) (wrap64 (m + wrap64 (rd ws at_ * wrap64 (p - 30)))) s).bind fun r => if r.1 = true then impl_eachEven_CountEven_1.lp k ws kk r.2.1 at_ m r.2.2 (wrap64 (p + 1)) else some (false, r.2.1, r.2.2))) else none) else none) else none)) else some (true, st, s)
end
/-- All even seatings. -/
def impl_eachEven_CountEven_1.f (k : Nat) (ws : List Int) (kk : Int) (s : Int) : Option (Int) := if ws.length ≤ 1000000 then ((impl_eachEven_CountEven_1.fr k ws kk (List.replicate ws.length 0) 0 0 s).bind fun r => some r.2.2) else none
theorem impl_eachEven_CountEven_1.mono_l : ∀ k, (∀ ws kk st at_ m s, LeO (impl_eachEven_CountEven_1.fr k ws kk st at_ m s) (impl_eachEven_CountEven_1.fr (k + 1) ws kk st at_ m s)) ∧ (∀ ws kk st at_ m s p, LeO (impl_eachEven_CountEven_1.lp k ws kk st at_ m s p) (impl_eachEven_CountEven_1.lp (k + 1) ws kk st at_ m s p)) := by
 intro k
 induction k with
 | zero => exact ⟨fun _ _ _ _ _ _ r h => by simp [impl_eachEven_CountEven_1.fr] at h, fun _ _ _ _ _ _ _ r h => by simp [impl_eachEven_CountEven_1.lp] at h⟩
 | succ k ih =>
  obtain ⟨i1, i2⟩ := ih; refine ⟨?_, ?_⟩
  ·intro ws kk st at_ m s
   unfold impl_eachEven_CountEven_1.fr
   exact LeO.ite (LeO.refl _) (i2 _ _ _ _ _ _ _)
  ·intro ws kk st at_ m s p
   unfold impl_eachEven_CountEven_1.lp
   refine LeO.ite (LeO.ite (i2 _ _ _ _ _ _ _) (LeO.ite (LeO.ite (LeO.ite ?_ (LeO.refl _)) (LeO.refl _)) (LeO.refl _))) (LeO.refl _); refine LeO.bind (slices_Contains.mono _ _ _) (fun _ => LeO.ite (i2 _ _ _ _ _ _ _) ?_); exact LeO.bind (i1 _ _ _ _ _ _) (fun _ => LeO.ite (i2 _ _ _ _ _ _ _) (LeO.refl _))
theorem impl_eachEven_CountEven_1.mono : ∀ ws kk s k, LeO (impl_eachEven_CountEven_1.f k ws kk s) (impl_eachEven_CountEven_1.f (k + 1) ws kk s) := by
 intro ws kk s k
 unfold impl_eachEven_CountEven_1.f
 exact LeO.ite (LeO.bind ((impl_eachEven_CountEven_1.mono_l k).1 _ _ _ _ _ _) (fun _ => LeO.refl _)) (LeO.refl _)
/-- What lies in memory while it goes through the seatings. -/
def impl_eachEven_CountEven_1.S (w0 : World) (g1 : Nat) (gs ga n : Nat) (Aw : Option Addr) (cw : Nat) (ws : List Int) (kk : Int) (w : World) (st : List Int) (s : Int) : Prop :=
 impl_CountEven_1.J w0 g1 ga w s ∧ w.heap[gs]? = some (.cells #[.slice Aw ws.length cw, .slice (some ⟨ga, 0, none⟩) n n, .int .i64 kk, .func (.func 64) #[] #[.pointer (some ⟨g1, 0, none⟩)]] 90 (0, 0)) ∧ w.heap[ga]? = some (.cells (st.map (Value.int .i64)).toArray 3 (0, 0)) ∧ st.length = n ∧ n ≤ 1000000 ∧ gs ≠ ga ∧ gs ≠ g1
section
variable {w0 w w1 : World} {g1 gs ga n : Nat} {Aw : Option Addr} {cw : Nat} {ws st : List Int} {kk : Int} {s r : Int}
theorem impl_eachEven_CountEven_1.S_below (h : impl_eachEven_CountEven_1.S w0 g1 gs ga n Aw cw ws kk w st s) (hb : Below w.heap.size w w1) : impl_eachEven_CountEven_1.S w0 g1 gs ga n Aw cw ws kk w1 st s :=
 ⟨impl_CountEven_1.J_below h.1 hb, blk_below h.2.1 hb, blk_below h.2.2.1 hb, h.2.2.2⟩
theorem impl_eachEven_CountEven_1.S_drewN (h : impl_eachEven_CountEven_1.S w0 g1 gs ga n Aw cw ws kk w st s) (m : Nat) : impl_eachEven_CountEven_1.S w0 g1 gs ga n Aw cw ws kk (w.drewN m) st s := impl_eachEven_CountEven_1.S_below h (pw_below_drewN (Below.refl _ _) m)
theorem impl_eachEven_CountEven_1.S_drew (h : impl_eachEven_CountEven_1.S w0 g1 gs ga n Aw cw ws kk w st s) : impl_eachEven_CountEven_1.S w0 g1 gs ga n Aw cw ws kk w.drew st s := impl_eachEven_CountEven_1.S_below h (below_drew (Below.refl _ _))
theorem impl_eachEven_CountEven_1.S_seat (h : impl_eachEven_CountEven_1.S w0 g1 gs ga n Aw cw ws kk w st s) (j : Nat) (p : Int) : impl_eachEven_CountEven_1.S w0 g1 gs ga n Aw cw ws kk (w.setCell ⟨ga, j, none⟩ (.int .i64 p)) (st.set j p) s :=
 ⟨impl_CountEven_1.J_seat h.1 j _, blk_far h.2.1 h.2.2.2.2.2.1 _, blk_put h.2.2.1 j _ (by simp [List.map_set]), by rw [List.length_set]; exact h.2.2.2.1, h.2.2.2.2⟩
theorem impl_eachEven_CountEven_1.S_tell (h : impl_eachEven_CountEven_1.S w0 g1 gs ga n Aw cw ws kk w st s) (hj : impl_CountEven_1.J w0 g1 ga w1 r) (hk : ∀ i, i < w.heap.size → i ≠ g1 → w1.heap[i]? = w.heap[i]?) : impl_eachEven_CountEven_1.S w0 g1 gs ga n Aw cw ws kk w1 st r :=
 ⟨hj, (hk gs (blk_lt h.2.1) h.2.2.2.2.2.2).trans h.2.1, (hk ga (blk_lt h.2.2.1) (Ne.symm h.1.2.2.1)).trans h.2.2.1, h.2.2.2⟩
theorem impl_eachEven_CountEven_1.S_row (h : impl_eachEven_CountEven_1.S w0 g1 gs ga n Aw cw ws kk w st s) : Kd.C (Kd.int .i64) w (some ⟨ga, 0, none⟩) st.length st :=
 Kd.C_of_reads (enc := Value.int .i64) (d := 0) (h1 := fun _ => rfl) ⟨rfl, (by have h1 := h.2.2.2.1; have h2 := h.2.2.2.2.1; omega), fun _ => ⟨_, rfl, fun j hj => by
  rw [add_plain, blk_cell h.2.2.1]
  simp [hj]⟩⟩
theorem impl_eachEven_CountEven_1.S_cells (h : impl_eachEven_CountEven_1.S w0 g1 gs ga n Aw cw ws kk w st s) : w.cell? ⟨gs, 0, none⟩ = some (.slice Aw ws.length cw) ∧ w.cell? ⟨gs, 1, none⟩ = some (.slice (some ⟨ga, 0, none⟩) n n) ∧ w.cell? ⟨gs, 2, none⟩ = some (.int .i64 kk) ∧ w.cell? ⟨gs, 3, none⟩ = some (.func (.func 64) #[] #[.pointer (some ⟨g1, 0, none⟩)]) :=
 ⟨(blk_cell h.2.1 0).trans rfl, (blk_cell h.2.1 1).trans rfl, (blk_cell h.2.1 2).trans rfl, (blk_cell h.2.1 3).trans rfl⟩
theorem impl_eachEven_CountEven_1.S_cut (h : impl_eachEven_CountEven_1.S w0 g1 gs ga n Aw cw ws kk w st s) {at_ : Int} (h0 : 0 ≤ at_) (h1 : at_ < (st.length : Int)) : (∀ W : World, (Instr.slice 22 (.slice (some ⟨ga, 0, none⟩) n n) none (some (.int .i64 at_)) none).run Try.prog W = .ok (.slice (some ⟨ga, 0, none⟩) at_.toNat n) W) ∧ ∀ (w2 : World) (k : Nat) (p : Int) (b : Bool), w.heap[ga]? = w2.heap[ga]? → slices_Contains.f k (st.take at_.toNat) p = some b → Calls Try.prog 87 #[.slice (some ⟨ga, 0, none⟩) at_.toNat n, .int .i64 p] w2 fun e w' => e = .returned (.bool b) ∧ Drawn0 w2 w' := by
 have hn := h.2.2.2.1
 have hl : (st.take at_.toNat).length = at_.toNat := by rw [List.length_take]; omega
 obtain ⟨i0, hi0, _, hsz, _⟩ := info_parts info3; obtain ⟨q1, q2, q3⟩ := print_take_of (P := Try.prog) (Value.int .i64) 0 22 3 .i64 Try.underlying22 hi0 hsz (some ⟨ga, 0, none⟩) n st at_ h0 (by omega) (by omega); rw [hn, hl] at q1; refine ⟨q1, fun w2 k p b e hc => ?_⟩
 have hr : Kd.C (Kd.int .i64) w2 (some ⟨ga, 0, none⟩) (st.take at_.toNat).length (st.take at_.toNat) := by
  refine Kd.C_of_reads (enc := Value.int .i64) (d := 0) (h1 := fun _ => rfl) (q2 _ ⟨rfl, (by have h2 := h.2.2.2.2.1; omega), fun _ => ⟨_, rfl, fun j hj => ?_⟩⟩); rw [add_plain, blk_cell (e.symm.trans h.2.2.1)]
  simp [hj]
 have key := slices_Contains.calls k (some ⟨ga, 0, none⟩) n (st.take at_.toNat) p b w2 hr q3 hc; rw [hl] at key; exact key
theorem impl_eachEven_CountEven_1.S_cell (h : impl_eachEven_CountEven_1.S w0 g1 gs ga n Aw cw ws kk w st s) {at_ : Int} (h0 : 0 ≤ at_) (h1 : at_ < (st.length : Int)) : w.cell? ⟨ga, at_.toNat, none⟩ = some (.int .i64 (rd st at_)) ∧ w.frozen? ⟨ga, at_.toNat, none⟩ = false := by
 refine ⟨?_, blk_frozen h.2.2.1 _⟩; rw [blk_cell h.2.2.1]
 have hj : at_.toNat < st.length := by omega
 unfold rd
 simp [hj]
end
set_option maxHeartbeats 8000000 in
set_option maxRecDepth 100000 in
theorem impl_eachEven_CountEven_1.fr_calls (g1 : Nat) (gs ga n : Nat) (Aw : Option Addr) (cw : Nat) (ws : List Int) (kk : Int) (w0 : World) (hrw : Kd.C (Kd.int .i64) w0 Aw ws.length ws) (hcw : ws.length ≤ cw) (k : Nat) : ∀ (st : List Int) (at_ m : Int) (s : Int) (b : Bool) (st2 : List Int) (r : Int) (w : World), impl_eachEven_CountEven_1.S w0 g1 gs ga n Aw cw ws kk w st s → impl_eachEven_CountEven_1.fr k ws kk st at_ m s = some (b, st2, r) →
  Calls Try.prog 83 #[.pointer (some ⟨gs, 0, none⟩), .int .i64 at_, .int .i64 m] w fun e w' => e = .returned (.bool b) ∧ impl_eachEven_CountEven_1.S w0 g1 gs ga n Aw cw ws kk w' st2 r := by
 have HRW := Aside0.mk hrw; have HCW := Aside0.mk hcw; clear hrw hcw
 induction k using Nat.strongRecOn with
 | _ k ih =>
 intro st at_ m s b st2 r w hS h
 cases k with
 | zero => exact absurd h (by simp [impl_eachEven_CountEven_1.fr])
 | succ k =>
 have HS := Aside0.mk hS; have HI := Aside0.mk ih; obtain ⟨c0, c1, c2, c3⟩ := impl_eachEven_CountEven_1.S_cells hS; clear hS ih; have H := h; clear h; simp only [impl_eachEven_CountEven_1.fr] at H
 by_cases ca : at_ = (ws.length : Int)
 ·rw [if_pos ca] at H
  have cab : (at_ == (ws.length : Int)) = true := beq_iff_eq.2 ca; clear ca
  by_cases cm : m = 0
  ·rw [if_pos cm] at H
   have cmb : (m == 0) = true := beq_iff_eq.2 cm
   have cmc : (m != 0) = false := by rw [bne, cmb]; rfl
   clear cm; obtain ⟨⟨b1, r1⟩, A1_, H⟩ := Option.bind_eq_some_iff.mp H; have Q1 := Aside0.mk A1_; clear A1_
   obtain ⟨rfl, rfl, rfl⟩ : b1 = b ∧ st = st2 ∧ r1 = r := by simpa using H
   clear H
   go_enter Try.func83, Try.ntmps83
   go_wp2
   go_region_with (go_at_call 64; refine (impl_CountEven_1.calls g1 ga n st s b1 r1 w0 _ ?hj  HS.out.2.2.2.1 ?hr Q1.out).mono ?_; (case hj => exact (impl_eachEven_CountEven_1.S_drew HS.out).1); (case hr => exact impl_eachEven_CountEven_1.S_row (impl_eachEven_CountEven_1.S_drew HS.out)); rintro e w19 ⟨rfl, hj, hk⟩; have HS2 := Aside0.mk (impl_eachEven_CountEven_1.S_tell (impl_eachEven_CountEven_1.S_drew HS.out) hj hk); clear hj hk)
   all_goals (try go_wp2)
   all_goals go_ret
   all_goals exact ⟨by first | rfl | (simp <;> rfl), by repeat (first | (with_reducible first | exact HS2.out | apply impl_eachEven_CountEven_1.S_drewN | apply impl_eachEven_CountEven_1.S_drew) | exact HS2.out)⟩
  ·rw [if_neg cm] at H
   have cmb : (m == 0) = false := beq_eq_false_iff_ne.2 cm
   have cmc : (m != 0) = true := by rw [bne, cmb]; rfl
   clear cm
   obtain ⟨rfl, rfl, rfl⟩ : true = b ∧ st = st2 ∧ s = r := by simpa using H
   clear H
   go_enter Try.func83, Try.ntmps83
   go_wp2
   repeat (go_quiet (fail); try go_wp2)
   go_ret; exact ⟨by first | rfl | (simp <;> rfl), by repeat (first | (with_reducible first | exact HS.out | apply impl_eachEven_CountEven_1.S_drewN | apply impl_eachEven_CountEven_1.S_drew) | exact HS.out)⟩
 ·rw [if_neg ca] at H
  have cab : (at_ == (ws.length : Int)) = false := beq_eq_false_iff_ne.2 ca; clear ca; have H' := Aside0.mk H; clear H
  go_enter Try.func83, Try.ntmps83
  go_wp2
  go_loopg [7] k (fun kq v7 w' => ∃ (p_ : Int) (st1 : List Int) (s1 : Int), v7 = .int .i64 p_ ∧ Aside0 (impl_eachEven_CountEven_1.lp kq ws kk st1 at_ m s1 p_ = some (b, st2, r)) ∧ Aside0 (kq ≤ k) ∧ Aside0 (impl_eachEven_CountEven_1.S w0 g1 gs ga n Aw cw ws kk w' st1 s1))
  case atStart => exact ⟨wrap64 (30 - kk), st, s, (by first | rfl | (simp; done) | (simp [*]; done)), H', ⟨Nat.le_refl _⟩, ⟨by repeat (first | (with_reducible first | exact HS.out | apply impl_eachEven_CountEven_1.S_drewN | apply impl_eachEven_CountEven_1.S_drew) | exact HS.out)⟩⟩
  case round =>
   clear H' HS c0 c1 c2 c3; obtain ⟨p_, st1, s1, rfl, HA, HK, HS⟩ := hrel; obtain ⟨c0, c1, c2, c3⟩ := impl_eachEven_CountEven_1.S_cells HS.out
   cases gk with
   | zero => exact absurd HA.out (by simp [impl_eachEven_CountEven_1.lp])
   | succ kq =>
   have H := HA.out; clear HA; simp only [impl_eachEven_CountEven_1.lp] at H
   by_cases cp : p_ ≤ wrap64 (30 + kk)
   ·rw [if_pos cp] at H
    have cpb : decide (p_ ≤ wrap64 (30 + kk)) = true := decide_eq_true cp; clear cp
    by_cases c30 : p_ = 30
    ·rw [if_pos c30] at H
     have c3b : (p_ == 30) = true := beq_iff_eq.2 c30; clear c30; have H' := Aside0.mk H; clear H; go_wp2; go_roundg kq
     case measure => omega
     case rel => exact ⟨wrap64 (p_ + 1), st1, s1, (by first | rfl | (simp; done) | (simp [*]; done)), H', ⟨by have := HK.out; omega⟩, ⟨by repeat (first | (with_reducible first | exact HS.out | apply impl_eachEven_CountEven_1.S_drewN | apply impl_eachEven_CountEven_1.S_drew) | exact HS.out)⟩⟩
    ·rw [if_neg c30] at H
     have c3b : (p_ == 30) = false := beq_eq_false_iff_ne.2 c30; clear c30
     by_cases d0 : 0 ≤ at_
     case neg => rw [if_neg d0] at H; exact absurd H (by simp)
     rw [if_pos d0] at H
     by_cases d1 : at_ < (st1.length : Int)
     case neg => rw [if_neg d1] at H; exact absurd H (by simp)
     rw [if_pos d1] at H
     by_cases d2 : at_ < (ws.length : Int)
     case neg => rw [if_neg d2] at H; exact absurd H (by simp)
     rw [if_pos d2] at H; obtain ⟨cc, A1_, H⟩ := Option.bind_eq_some_iff.mp H; have Q1 := Aside0.mk A1_; clear A1_; obtain ⟨hcut, hcall⟩ := impl_eachEven_CountEven_1.S_cut HS.out d0 d1; have HCT := Aside0.mk hcall; clear hcall
     cases cc with
     | true =>
      replace H : impl_eachEven_CountEven_1.lp kq ws kk st1 at_ m s1 (wrap64 (p_ + 1)) = some (b, st2, r) := H; have H' := Aside0.mk H; clear H; clear d0 d1 d2
      go_wp2_with (first | (go_at_call 87; refine (HCT.out _ kq p_ true rfl Q1.out).mono ?_; rintro e w' ⟨rfl, ⟨nd, rfl⟩⟩))
      go_roundg kq
      case measure => omega
      case rel => exact ⟨wrap64 (p_ + 1), st1, s1, (by first | rfl | (simp; done) | (simp [*]; done)), H', ⟨by have := HK.out; omega⟩, ⟨by repeat (first | (with_reducible first | exact HS.out | apply impl_eachEven_CountEven_1.S_drewN | apply impl_eachEven_CountEven_1.S_drew) | exact HS.out)⟩⟩
     | false =>
      obtain ⟨⟨b1, st3, s3⟩, A2_, H⟩ := Option.bind_eq_some_iff.mp (show ((impl_eachEven_CountEven_1.fr kq ws kk (st1.set at_.toNat p_) (wrap64 (at_ + 1)) (wrap64 (m + wrap64 (rd ws at_ * wrap64 (p_ - 30)))) s1).bind fun r => if r.1 = true then impl_eachEven_CountEven_1.lp kq ws kk r.2.1 at_ m r.2.2 (wrap64 (p_ + 1)) else some (false, r.2.1, r.2.2)) = some (b, st2, r) from H); have Q2 := Aside0.mk A2_; clear A2_; obtain ⟨ce, ze⟩ := impl_eachEven_CountEven_1.S_cell HS.out d0 d1; have hn := HS.out.2.2.2.1
      have hng : at_ < (n : Int) := by omega
      have d0b : decide (0 ≤ at_) = true := decide_eq_true d0; have d1b : decide (at_ < (n : Int)) = true := decide_eq_true hng; have d2b : decide (at_ < (ws.length : Int)) = true := decide_eq_true d2; have d0c := eq_true d0; have d1c := eq_true hng; have d2c := eq_true d2; obtain ⟨ad9, e9, hx9⟩ := Kd.at_int HRW.out at_ d0 d2; cases e9; have HX9 := Aside0.mk hx9; clear d0 d1 d2 hn hng hx9; have HJB := Aside0.mk (impl_CountEven_1.J_base HS.out.1)
      have rest : ∀ (W : World), impl_eachEven_CountEven_1.S w0 g1 gs ga n (some ad9) cw ws kk W (st1.set at_.toNat p_) s1 → Calls Try.prog 83 #[.pointer (some ⟨gs, 0, none⟩), .int .i64 (wrap64 (at_ + 1)), .int .i64 (wrap64 (m + wrap64 (rd ws at_ * wrap64 (p_ - 30))))] W fun e w' => e = .returned (.bool b1) ∧ impl_eachEven_CountEven_1.S w0 g1 gs ga n (some ad9) cw ws kk w' st3 s3 := fun W hW => HI.out kq (by have := HK.out; omega) _ _ _ _ _ _ _ _ hW Q2.out
      have HR := Aside0.mk rest; clear rest
      cases b1 with
      | true =>
       replace H : impl_eachEven_CountEven_1.lp kq ws kk st3 at_ m s3 (wrap64 (p_ + 1)) = some (b, st2, r) := H; have H' := Aside0.mk H; clear H
       go_wp2_with (first | (go_at_call 87; refine (HCT.out _ kq p_ false rfl Q1.out).mono ?_; rintro e w' ⟨rfl, ⟨nd, rfl⟩⟩) | ((with_reducible refine gate_store (t := 3) (p := 60) rfl ?_); refine store_event (t := 3) (p := 60) (v := .tmp 59) (w1 := ((wr.drewN nd).setCell ⟨ga, at_.toNat, none⟩ (.int .i64 p_))) ?hg ?ho ?hn ?hr ?_; (case ho => rfl); (case hg => rfl); (case hn => rfl); (case hr => first | (go_simp; done) | (go_simp; rfl)); intro w9 hw9; have HS9 := Aside0.mk (show impl_eachEven_CountEven_1.S w0 g1 gs ga n (some ad9) cw ws kk w9 (st1.set at_.toNat p_) s1 from by rw [hw9]; exact impl_eachEven_CountEven_1.S_seat (impl_eachEven_CountEven_1.S_drewN HS.out nd) at_.toNat p_); obtain ⟨q0, q1, q2, q3⟩ := impl_eachEven_CountEven_1.S_cells HS9.out; have HJ9 := impl_CountEven_1.J_base HS9.out.1; have hz9 := (HJ9.cell (World.block_lt_of_cell? w0 _ HX9.out)).trans HX9.out; clear hw9 HJ9) | (go_at_call 83; refine (HR.out _ (by repeat (first | (with_reducible first | exact HS9.out | apply impl_eachEven_CountEven_1.S_drewN | apply impl_eachEven_CountEven_1.S_drew) | exact HS9.out))).mono ?_; rintro e w19 ⟨rfl, hs⟩; have HS3 := Aside0.mk hs; clear hs))
       go_roundg kq
       case measure => omega
       case rel => exact ⟨wrap64 (p_ + 1), st3, s3, (by first | rfl | (simp; done) | (simp [*]; done)), H', ⟨by have := HK.out; omega⟩, ⟨by repeat (first | (with_reducible first | exact HS3.out | apply impl_eachEven_CountEven_1.S_drewN | apply impl_eachEven_CountEven_1.S_drew) | exact HS3.out)⟩⟩
      | false =>
       obtain ⟨rfl, rfl, rfl⟩ : false = b ∧ st3 = st2 ∧ s3 = r := by simpa using H
       clear H
       go_wp2_with (first | (go_at_call 87; refine (HCT.out _ kq p_ false rfl Q1.out).mono ?_; rintro e w' ⟨rfl, ⟨nd, rfl⟩⟩) | ((with_reducible refine gate_store (t := 3) (p := 60) rfl ?_); refine store_event (t := 3) (p := 60) (v := .tmp 59) (w1 := ((wr.drewN nd).setCell ⟨ga, at_.toNat, none⟩ (.int .i64 p_))) ?hg ?ho ?hn ?hr ?_; (case ho => rfl); (case hg => rfl); (case hn => rfl); (case hr => first | (go_simp; done) | (go_simp; rfl)); intro w9 hw9; have HS9 := Aside0.mk (show impl_eachEven_CountEven_1.S w0 g1 gs ga n (some ad9) cw ws kk w9 (st1.set at_.toNat p_) s1 from by rw [hw9]; exact impl_eachEven_CountEven_1.S_seat (impl_eachEven_CountEven_1.S_drewN HS.out nd) at_.toNat p_); obtain ⟨q0, q1, q2, q3⟩ := impl_eachEven_CountEven_1.S_cells HS9.out; have HJ9 := impl_CountEven_1.J_base HS9.out.1; have hz9 := (HJ9.cell (World.block_lt_of_cell? w0 _ HX9.out)).trans HX9.out; clear hw9 HJ9) | (go_at_call 83; refine (HR.out _ (by repeat (first | (with_reducible first | exact HS9.out | apply impl_eachEven_CountEven_1.S_drewN | apply impl_eachEven_CountEven_1.S_drew) | exact HS9.out))).mono ?_; rintro e w19 ⟨rfl, hs⟩; have HS3 := Aside0.mk hs; clear hs))
       go_ret; exact ⟨by first | rfl | (simp <;> rfl), by repeat (first | (with_reducible first | exact HS3.out | apply impl_eachEven_CountEven_1.S_drewN | apply impl_eachEven_CountEven_1.S_drew) | exact HS3.out)⟩
   ·rw [if_neg cp] at H
    have cpb : decide (p_ ≤ wrap64 (30 + kk)) = false := decide_eq_false cp; clear cp
    obtain ⟨rfl, rfl, rfl⟩ : true = b ∧ st1 = st2 ∧ s1 = r := by simpa using H
    clear H; go_wp2; go_ret; exact ⟨by first | rfl | (simp <;> rfl), by repeat (first | (with_reducible first | exact HS.out | apply impl_eachEven_CountEven_1.S_drewN | apply impl_eachEven_CountEven_1.S_drew) | exact HS.out)⟩
theorem impl_eachEven_CountEven_1.zeros (n : Nat) : madeCells #[Value.int .i64 0] n = ((List.replicate n (0 : Int)).map (Value.int .i64)).toArray := by
 apply Array.ext
 ·simp [madeCells]
 ·intro i h1 h2
  simp [madeCells, Nat.mod_one]
theorem impl_eachEven_CountEven_1.make_event {ops : Array Oper} {rest : List Oper} {o : Oper} {a : Act} {F : Exit → Act → World → Prop} {W : World} (hgd : o.guard = none) {N : Tmp} (_hd : o.dst = some N) (x y : Operand) (ho : o.op = .makeSlice 22 x y) (n : Nat) (hx : a.eval x = .int .i64 (n : Int)) (hy : a.eval y = .int .i64 (n : Int)) (hn : n ≤ 1000000)
  (h : ∀ g, g = W.heap.size → ∀ w1, w1.heap[g]? = some (.cells ((List.replicate n (0 : Int)).map (Value.int .i64)).toArray 3 (0, 0)) → Below W.heap.size W w1 → wpList Try.prog ops F rest (a.put o.dst (.slice (some ⟨g, 0, none⟩) n n)) w1) : wpList Try.prog ops F (o :: rest) a W := by
 obtain ⟨i0, hi, hzz⟩ := Option.map_eq_some_iff.1 info3; simp only [Prod.mk.injEq] at hzz; obtain ⟨hz0, hz1, hz2⟩ := hzz; have hr := run_make (P := Try.prog) W 22 3 i0 (.int .i64 0) Try.underlying22 hi hz0 .i64 .i64 (n : Int) (n : Int) (by omega) (by omega) (by rw [hz2]; omega) (by omega); simp only [Int.toNat_natCast] at hr; rw [hz1, show n * 1 = n from Nat.mul_one n, show (Value.int .i64 0).cells = #[Value.int .i64 0] from rfl, impl_eachEven_CountEven_1.zeros] at hr; exact Kd.event_run hgd (by simp [execOp, ho, hx, hy, hr]) (h _ rfl _ (blk_new W _) (below_alloc (Below.refl _ _) _))
set_option maxHeartbeats 8000000 in
set_option maxRecDepth 100000 in
theorem impl_eachEven_CountEven_1.calls (g1 : Nat) (k : Nat) (A0 : Option Addr) (c0 : Nat) (l0 : List Int) (a1 : Int) (s r : Int) (w0 w : World) (hr0 : Kd.C (Kd.int .i64) w0 A0 l0.length l0) (hc0 : l0.length ≤ c0) (hJ : impl_CountEven_1.J0 w0 g1 w s) (h : impl_eachEven_CountEven_1.f k l0 a1 s = some r) :
  Calls Try.prog 63 #[.slice A0 l0.length c0, .int .i64 a1, .func (.func 64) #[] #[.pointer (some ⟨g1, 0, none⟩)]] w fun e w' => e = .returned (.tuple #[]) ∧ impl_CountEven_1.J0 w0 g1 w' r := by
 have HR0 := Aside0.mk hr0; have HC0 := Aside0.mk hc0; have HJ := Aside0.mk hJ; clear hr0 hc0 hJ
 unfold impl_eachEven_CountEven_1.f at h
 by_cases hn : l0.length ≤ 1000000
 case neg => rw [if_neg hn] at h; cases h
 rw [if_pos hn] at h; have HN := Aside0.mk hn; obtain ⟨⟨b, st2, s2⟩, A1_, H⟩ := Option.bind_eq_some_iff.mp h; have Q1 := Aside0.mk A1_; clear A1_ hn; obtain rfl : s2 = r := Option.some.inj H; clear H h; have HB := Aside0.mk (Below.refl w.heap.size w)
 go_enter Try.func63, Try.ntmps63
 go_wp2_with (first
  | ((with_reducible refine gate_dst (N := 10) rfl ?_); refine impl_eachEven_CountEven_1.make_event ?hg (N := 10) ?hd (.tmp 9) (.tmp 9) ?ho l0.length ?hx ?hy HN.out ?_; (case hd => rfl); (case hg => rfl); (case ho => rfl); (case hx => rfl); (case hy => rfl); intro ga hg w8 hbox hb; have n0_ := Aside0.mk (below_step (by repeat (first | (with_reducible first | exact HB.out | apply below_alloc | apply pw_below_drewN | apply below_drew1) | exact HB.out)) hb); have BA := Aside0.mk hbox; have GA_ := Aside0.mk ((by rw [hg]; exact (below_size (by repeat (first | (with_reducible first | exact HB.out | apply below_alloc | apply pw_below_drewN | apply below_drew1) | exact HB.out)))) : w.heap.size ≤ ga); have LA_ := Aside0.mk (blk_lt hbox); clear HB; have HB := n0_; clear n0_ hb hbox hg)
  | ((with_reducible refine gate_dst (N := 14) rfl ?_); refine box_event ?hg (N := 14) ?hd (cs := #[.slice A0 l0.length c0, .slice (some ⟨ga, 0, none⟩) l0.length l0.length, .int .i64 a1, .func (.func 64) #[] #[.pointer (some ⟨g1, 0, none⟩)]]) (t := 90) ?hr ?_; (case hd => rfl); (case hg => rfl); (case hr => first | (go_simp; done) | (go_simp; rfl)); intro gs hg w9 hbox hb; have n0_ := Aside0.mk (below_step (by repeat (first | (with_reducible first | exact HB.out | apply below_alloc | apply pw_below_drewN | apply below_drew1) | exact HB.out)) hb); have BS := Aside0.mk hbox; have NSA := Aside0.mk (show gs ≠ ga from by rw [hg]; exact Ne.symm (Nat.ne_of_lt LA_.out)); have GS_ := Aside0.mk ((by rw [hg]; exact (below_size (by repeat (first | (with_reducible first | exact HB.out | apply below_alloc | apply pw_below_drewN | apply below_drew1) | exact HB.out)))) : w.heap.size ≤ gs); have n5_ := Aside0.mk (blk_below (by (with_reducible repeat (first | refine blk_drewN ?_ _ | refine blk_drew ?_ | refine blk_alloc ?_ _)); exact BA.out) hb); clear BA; have BA := n5_; clear n5_; clear HB; have HB := n0_; clear n0_ hb hbox hg; have HS := Aside0.mk (show impl_eachEven_CountEven_1.S w0 g1 gs ga l0.length A0 c0 l0 a1 w9 (List.replicate l0.length 0) s from ⟨impl_CountEven_1.J_of HJ.out HB.out GA_.out, BS.out, BA.out, by rw [List.length_replicate], HN.out, NSA.out, by have := blk_lt HJ.out.2.1; have := GS_.out; omega⟩))
  | (go_at_call 83; refine (impl_eachEven_CountEven_1.fr_calls g1 gs ga l0.length A0 c0 l0 a1 w0 HR0.out HC0.out k (List.replicate l0.length 0) 0 0 s b st2 s2 _ (by repeat (first | (with_reducible first | exact HS.out | apply impl_eachEven_CountEven_1.S_drewN | apply impl_eachEven_CountEven_1.S_drew) | exact HS.out)) Q1.out).mono ?_; rintro e w19 ⟨rfl, hs⟩; have HS3 := Aside0.mk hs; clear hs))
 first | go_end0 | ((try simp only [Exit.inBlock, Exit.then]); refine bodyPost_ret (results_none rfl _ _ _) rfl ?_)
 exact ⟨by first | rfl | (simp <;> rfl), impl_CountEven_1.J_to (by first | exact HS3.out.1 | exact (impl_eachEven_CountEven_1.S_drewN HS3.out _).1)⟩

/-! ### impl_CountEven: function 26, by hand -/
-- needs 62 87 63
def impl_CountEven.f (k : Nat) (l0 : List Int) (a1 : Int) : Option (Int × Bool) :=
 (impl_canSeat.f k l0 a1).bind fun t => if t = true then ((impl_eachEven_CountEven_1.f k l0 a1 0).bind fun s => some (s, true)) else some (0, false)
theorem impl_CountEven.mono : ∀ a0 a1 k, LeO (impl_CountEven.f k a0 a1) (impl_CountEven.f (k + 1) a0 a1) := by
 intro a0 a1 k
 unfold impl_CountEven.f
 refine LeO.bind (impl_canSeat.mono _ _ _) (fun _ => ?_); refine LeO.ite ?_ (LeO.refl _); exact LeO.bind (impl_eachEven_CountEven_1.mono _ _ _ _) (fun _ => LeO.refl _)
set_option maxHeartbeats 8000000 in
set_option maxRecDepth 100000 in
theorem impl_CountEven.calls (k : Nat) (A0 : Option Addr) (c0 : Nat) (l0 : List Int) (a1 : Int) (r1 : Int) (r2 : Bool) (w : World) (hr0 : Kd.C (Kd.int .i64) w A0 l0.length l0) (hc0 : l0.length ≤ c0) (h : impl_CountEven.f k l0 a1 = some (r1, r2)) :
  Calls Try.prog 26 #[.slice A0 l0.length c0, .int .i64 a1] w fun e w' => e = .returned (.tuple #[.int .i64 r1, .bool r2]) ∧ Below w.heap.size w w' := by
 have HR0 := Aside0.mk hr0; have HC0 := Aside0.mk hc0; clear hr0 hc0; have HB := Aside0.mk (Below.refl w.heap.size w); obtain ⟨t, A1_, H⟩ := Option.bind_eq_some_iff.mp h; clear h; have Q1 := Aside0.mk A1_; clear A1_
 cases t with
 | false =>
  have H' := Aside0.mk H; clear H
  go_enter Try.func26, Try.ntmps26
  go_wp2_with (first | (go_at_call 62; refine (impl_canSeat.calls k A0 c0 l0 a1 false _ (Kd.C_below HR0.out (by repeat (first | (with_reducible first | exact HB.out | apply below_alloc | apply pw_below_drewN | apply below_drew1) | exact HB.out))) HC0.out Q1.out).mono ?_; rintro e w11 ⟨rfl, ⟨nd, rfl⟩⟩))
  go_ret2
  obtain ⟨rfl, rfl⟩ : (0 : Int) = r1 ∧ false = r2 := by have := H'.out; simpa using this
  exact ⟨by first | rfl | (simp <;> rfl), by repeat (first | (with_reducible first | exact HB.out | apply below_alloc | apply pw_below_drewN | apply below_drew1) | exact HB.out)⟩
 | true =>
  obtain ⟨s, A3_, H3⟩ := Option.bind_eq_some_iff.mp (show ((impl_eachEven_CountEven_1.f k l0 a1 0).bind fun s => some (s, true)) = some (r1, r2) from H); clear H; have Q3 := Aside0.mk A3_; clear A3_
  obtain ⟨rfl, rfl⟩ : s = r1 ∧ true = r2 := by simpa using H3
  clear H3
  go_enter Try.func26, Try.ntmps26
  go_wp2_with (first | (go_at_call 62; refine (impl_canSeat.calls k A0 c0 l0 a1 true _ (Kd.C_below HR0.out (by repeat (first | (with_reducible first | exact HB.out | apply below_alloc | apply pw_below_drewN | apply below_drew1) | exact HB.out))) HC0.out Q1.out).mono ?_; rintro e w11 ⟨rfl, ⟨nd, rfl⟩⟩) | ((with_reducible refine gate_dst (N := 6) rfl ?_); refine box_event ?hg (N := 6) ?hd (cs := #[.int .i64 0]) (t := 3) ?hr ?_; (case hd => rfl); (case hg => rfl); (case hr => first | (go_simp; done) | (go_simp; rfl)); intro g6_ hg w6 hbox hb; have n0_ := Aside0.mk (below_step (by repeat (first | (with_reducible first | exact HB.out | apply below_alloc | apply pw_below_drewN | apply below_drew1) | exact HB.out)) hb); have B6 := Aside0.mk hbox; have cz6 : w6.cell? ⟨g6_, 0, none⟩ = some (.int .i64 0) := (blk_cell hbox 0).trans rfl; have fz6 := blk_frozen hbox 0; have GE6 := Aside0.mk ((by rw [hg]; exact (below_size (by repeat (first | (with_reducible first | exact HB.out | apply below_alloc | apply pw_below_drewN | apply below_drew1) | exact HB.out)))) : w.heap.size ≤ g6_); clear HB; have HB := n0_; clear n0_ hb hbox hg) | (go_at_call 63; refine (impl_eachEven_CountEven_1.calls g6_ k A0 c0 l0 a1 0 s w _ HR0.out HC0.out (show impl_CountEven_1.J0 w g6_ _ 0 from ⟨by repeat (first | (with_reducible first | exact HB.out | apply below_alloc | apply pw_below_drewN | apply below_drew1 | refine below_set ?_ GE6.out) | exact HB.out), (by (with_reducible repeat (first | refine blk_drewN ?_ _ | refine blk_drew ?_ | refine blk_alloc ?_ _)); refine blk_put (cs := #[.int .i64 0]) ?_ 0 _ rfl; (with_reducible repeat (first | refine blk_drewN ?_ _ | refine blk_drew ?_ | refine blk_alloc ?_ _)); exact B6.out), GE6.out⟩) Q3.out).mono ?_; rintro e w19 ⟨rfl, hj⟩; have cj2 : w19.cell? ⟨g6_, 0, none⟩ = some (.int .i64 s) := (blk_cell hj.2.1 0).trans rfl; clear HB; have HB := Aside0.mk hj.1; clear hj))
  go_ret2
  exact ⟨by first | rfl | (simp <;> rfl), by repeat (first | (with_reducible first | exact HB.out | apply below_alloc | apply pw_below_drewN | apply below_drew1) | exact HB.out)⟩

/-! ### spec_CountEven: function 25 -/
def spec_CountEven.f (k : Nat) (l0 : List Int) (a1 : Int) : Option (Int × Bool) := (spec_l9Ask.f k l0 a1).bind fun t222 => (if t222 = true then (if (l0.length : Int) > 6 then (some (0, false)) else ((spec_l9Search.f k l0 a1 (([] : List Int)) 0 (([] : List Int)) 0).bind fun bt229 => (some (bt229.2, true)))) else (some (0, false)))
theorem spec_CountEven.mono : ∀ a0 a1 k, LeO (spec_CountEven.f k a0 a1) (spec_CountEven.f (k + 1) a0 a1) := by
 intro a0 a1 k
 unfold spec_CountEven.f
 repeat' first
   | (with_reducible exact spec_l9Ask.mono _ _ _)
   | (with_reducible exact spec_l9Search.mono _ _ _ _ _ _ _)
   | (with_reducible exact LeO.refl _)
   | (with_reducible exact LeO.none _)
   | (with_reducible refine LeO.ite ?_ ?_)
   | (with_reducible refine LeO.bind ?_ (fun _ => ?_))
set_option maxHeartbeats 8000000 in
set_option maxRecDepth 100000 in
theorem spec_CountEven.calls (k : Nat) (A0 : Option Addr) (c0 : Nat) (l0 : List Int) (a1 : Int) (r1 : Int) (r2 : Bool) (w : World) (hr0 : Kd.C (Kd.int .i64) w A0 l0.length l0) (hc0 : l0.length ≤ c0) (h : spec_CountEven.f k l0 a1 = some (r1, r2)) :
  Calls Try.prog 25 #[.slice A0 l0.length c0, .int .i64 a1] w fun e w' => e = .returned (.tuple #[.int .i64 r1, .bool r2]) ∧ Below w.heap.size w w' := by
 have hu77 := Try.underlying77; have HR0 := Aside0.mk hr0; have HC0 := Aside0.mk hc0; clear hr0 hc0; have HB := Aside0.mk (Below.refl w.heap.size w); have H : ((spec_l9Ask.f k l0 a1).bind fun t222 => (if t222 = true then (if (l0.length : Int) > 6 then (some (0, false)) else ((spec_l9Search.f k l0 a1 (([] : List Int)) 0 (([] : List Int)) 0).bind fun bt229 => (some (bt229.2, true)))) else (some (0, false)))) = some (r1, r2) := h; clear h; replace H := Option.bind_eq_some_iff.mp H; obtain ⟨t222, A30, H⟩ := H; replace H : (if t222 = true then (if (l0.length : Int) > 6 then (some (0, false)) else ((spec_l9Search.f k l0 a1 (([] : List Int)) 0 (([] : List Int)) 0).bind fun bt229 => (some (bt229.2, true)))) else (some (0, false))) = some (r1, r2) := H; have A3 := Aside0.mk A30; clear A30
 by_cases c4 : t222 = true
 ·subst c4
  have H1 : (if (l0.length : Int) > 6 then (some (0, false)) else ((spec_l9Search.f k l0 a1 (([] : List Int)) 0 (([] : List Int)) 0).bind fun bt229 => (some (bt229.2, true)))) = some (r1, r2) := by rw [if_pos rfl] at H; exact H
  clear H; have H := H1; clear H1
  by_cases c5 : (l0.length : Int) > 6
  ·rw [if_pos c5] at H
   have c5b0 : decide (6 < (l0.length : Int)) = true := decide_eq_true c5; have c5b1 : decide (6 < l0.length) = true := decide_eq_true (by omega); clear c5; simp only [Option.some.injEq, Prod.mk.injEq] at H; obtain ⟨rfl, rfl⟩ := H
   go_enter Try.func25, Try.ntmps25
   go_wp2_with (first | ((with_reducible refine gate_callee (f := 60) rfl ?_); refine goesL_ (some 8) rfl rfl Try.func60 (by kernel_rfl) rfl #[.slice A0 l0.length c0, .int .i64 a1] rfl (by (try simp only [List.map_toArray, List.map_cons, List.map_nil]); first | done | rfl | (simp only [List.length_drop, List.length_take]; rfl)) ?_; (with_reducible refine (spec_l9Ask.calls k _ _ l0 a1 true _ ?side1 ?side2 A3.out).mono ?_); (case side1 => repeat (first | exact HR0.out | (with_reducible refine Kd.C_alloc ?_ _) | (with_reducible refine Kd.C_drewN ?_ _) | (with_reducible refine Kd.C_drew ?_))); (case side2 => exact HC0.out); rintro e w' ⟨rfl, ⟨nd, rfl⟩⟩; refine ⟨_, rfl, ?_⟩))
   go_ret2
   exact ⟨by first | rfl | (simp [errW_none, errW_some] <;> rfl) | (simp [*, errW_none, errW_some] <;> rfl), by repeat (first | (with_reducible first | exact HB.out | apply below_alloc | apply pw_below_drewN | apply below_drew1) | exact HB.out)⟩
  ·rw [if_neg c5] at H
   have c5b0 : decide (6 < (l0.length : Int)) = false := decide_eq_false c5; have c5b1 : decide (6 < l0.length) = false := decide_eq_false (by omega); clear c5; obtain ⟨y223, hy223⟩ : ∃ y_ : List Int, y_ = (([] : List Int)) := ⟨_, rfl⟩
   replace H : ((spec_l9Search.f k l0 a1 y223 0 (([] : List Int)) 0).bind fun bt229 => (some (bt229.2, true))) = some (r1, r2) := by first | (rw [hy223]; with_reducible exact H) | (have H2_ := (Option.bind_some _ _).symm.trans H; rw [hy223]; with_reducible exact H2_) | (have H2_ := (Option.bind_some _ _).symm.trans H; with_reducible exact H2_) | with_reducible exact H | (rw [hy223]; exact H) | exact H
   have Ny223 := Aside0.mk hy223; clear hy223; obtain ⟨y226, hy226⟩ : ∃ y_ : List Int, y_ = (([] : List Int)) := ⟨_, rfl⟩
   replace H : ((spec_l9Search.f k l0 a1 y223 0 y226 0).bind fun bt229 => (some (bt229.2, true))) = some (r1, r2) := by first | (rw [hy226]; with_reducible exact H) | (have H2_ := (Option.bind_some _ _).symm.trans H; rw [hy226]; with_reducible exact H2_) | (have H2_ := (Option.bind_some _ _).symm.trans H; with_reducible exact H2_) | with_reducible exact H | (rw [hy226]; exact H) | exact H
   have Ny226 := Aside0.mk hy226; clear hy226; replace H := Option.bind_eq_some_iff.mp H; obtain ⟨⟨t229, t232⟩, A60, H⟩ := H; replace H : (some (t232, true)) = some (r1, r2) := H; have A6 := Aside0.mk A60; clear A60; simp only [Option.some.injEq, Prod.mk.injEq] at H; obtain ⟨rfl, rfl⟩ := H
   go_enter Try.func25, Try.ntmps25
   go_wp2_with (first | ((with_reducible refine gate_callee (f := 60) rfl ?_); refine goesL_ (some 8) rfl rfl Try.func60 (by kernel_rfl) rfl #[.slice A0 l0.length c0, .int .i64 a1] rfl (by (try simp only [List.map_toArray, List.map_cons, List.map_nil]); first | done | rfl | (simp only [List.length_drop, List.length_take]; rfl)) ?_; (with_reducible refine (spec_l9Ask.calls k _ _ l0 a1 true _ ?side1 ?side2 A3.out).mono ?_); (case side1 => repeat (first | exact HR0.out | (with_reducible refine Kd.C_alloc ?_ _) | (with_reducible refine Kd.C_drewN ?_ _) | (with_reducible refine Kd.C_drew ?_))); (case side2 => exact HC0.out); rintro e w' ⟨rfl, ⟨nd, rfl⟩⟩; refine ⟨_, rfl, ?_⟩) | ((with_reducible refine gate_dst (N := 17) rfl ?_); (try (refine gate_guard (by rfl) ?_; dsimp only)); refine Kd.R_lit (Kd.int .i64) _ 3 ?hg (N := 17) ?hd (xs := ([] : List Int)) (inner := []) (ok := fun _ => True) (okp := fun _ => True) ?hr ?hp (fun _ hk => hk) trivial (Below.refl _ _) (Nat.le_refl _) (by simp) ?_; (case hd => rfl); (case hg => rfl); (case hr => first | (go_simp; done) | (go_simp; rfl)); (case hp => exact (Reps.none _ _)); intro v224 w7 ho8 hb hg_ hnew_; clear hg_ hnew_; (first | rw [← Ny223.out] at ho8 | (simp only [Int.reduceToNat] at ho8; rw [← Ny223.out] at ho8)); have n0_ := Aside0.mk (Kd.R_lower ho8 (below_size (by repeat (first | (with_reducible first | exact HB.out | apply below_alloc | apply pw_below_drewN | apply below_drew1) | exact HB.out)))); have n1_ := Aside0.mk (below_step (by repeat (first | (with_reducible first | exact HB.out | apply below_alloc | apply pw_below_drewN | apply below_drew1) | exact HB.out)) hb); clear HB; have HO225 := n0_; have HB := n1_; clear n0_ n1_; clear hb ho8) | ((with_reducible refine gate_dst (N := 18) rfl ?_); (try (refine gate_guard (by rfl) ?_; dsimp only)); refine Kd.R_lit (Kd.int .i64) _ 3 ?hg (N := 18) ?hd (xs := ([] : List Int)) (inner := []) (ok := fun _ => True) (okp := fun _ => True) ?hr ?hp (fun _ hk => hk) trivial (Below.refl _ _) (Nat.le_refl _) (by simp) ?_; (case hd => rfl); (case hg => rfl); (case hr => first | (go_simp; done) | (go_simp; rfl)); (case hp => exact (Reps.none _ _)); intro v227 w9 ho10 hb hg_ hnew_; clear hg_ hnew_; (first | rw [← Ny226.out] at ho10 | (simp only [Int.reduceToNat] at ho10; rw [← Ny226.out] at ho10)); have n0_ := Aside0.mk (Kd.R_elder' (by (with_reducible repeat (first | apply Kd.R_alloc | apply Kd.R_drewN | apply Kd.R_drew)); exact HO225.out) (Kd.R_base ho10) hb); have n1_ := Aside0.mk (Kd.R_lower (Kd.R_new' ho10 (Kd.R_lt (by (with_reducible repeat (first | apply Kd.R_alloc | apply Kd.R_drewN | apply Kd.R_drew)); exact HO225.out))) (below_size (by repeat (first | (with_reducible first | exact HB.out | apply below_alloc | apply pw_below_drewN | apply below_drew1) | exact HB.out)))); have n2_ := Aside0.mk (below_step (by repeat (first | (with_reducible first | exact HB.out | apply below_alloc | apply pw_below_drewN | apply below_drew1) | exact HB.out)) hb); clear HO225; clear HB; have HO225 := n0_; have HO228 := n1_; have HB := n2_; clear n0_ n1_ n2_; clear hb ho10; obtain ⟨Ao11, co11, eo11⟩ := Kd.R_slice HO228.out; subst eo11; obtain ⟨Ao12, co12, eo12⟩ := Kd.R_slice HO225.out; subst eo12) | ((with_reducible refine gate_callee (f := 61) rfl ?_); refine goesL_ (some 20) rfl rfl Try.func61 (by kernel_rfl) rfl #[.slice A0 l0.length c0, .int .i64 a1, .slice Ao12 y223.length co12, .int .i64 0, .agg #[.slice Ao11 y226.length co11, .int .i64 0]] rfl (by (try simp only [List.map_toArray, List.map_cons, List.map_nil]); first | done | rfl | (simp only [List.length_drop, List.length_take]; rfl)) ?_; (with_reducible refine (spec_l9Search.calls k _ _ l0 a1 (fun k_ => some k_ = (.slice Ao12 y223.length co12 : Value).ownBlock) (.slice Ao12 y223.length co12) y223 0 (fun k_ => some k_ = (.slice Ao11 y226.length co11 : Value).ownBlock) _ _ y226 0 t229 t232 w _ ?side1 ?side2 ?side3 ?side4 ?side5 A6.out).mono ?_); (case side1 => repeat (first | (with_reducible first | exact HB.out | apply below_alloc | apply pw_below_drewN | apply below_drew1) | exact HB.out)); (case side2 => exact Kd.C_kept_came (Kd.heap_int .i64) HR0.out (by repeat (first | (with_reducible first | exact HB.out | apply below_alloc | apply pw_below_drewN | apply below_drew1) | exact HB.out)) (fun k_ hs_ => (fun e_ => Kd.R_base HO225.out k_ e_.symm) hs_)); (case side3 => exact HC0.out); (case side4 => exact Kd.R_tight rfl HO225.out); (case side5 => exact Kd.V_mono (Kd.R_V (Kd.R_tight rfl (HO228.out))) (fun k_ hk_ => ⟨hk_, ((HO228.out).1 k_ hk_.symm).2⟩)); rintro e w13 ⟨v230, rfl, ho0, hb, hkp⟩; refine ⟨_, rfl, ?_⟩; obtain ⟨Aq_, cq_, eq_⟩ := Kd.V_slice ho0; subst eq_; have hfld_ : ∀ (a_ : Option Addr) (n_ c_ : Nat) (x_ : Int) (W_ : World), (Instr.field 77 (.agg #[.slice a_ n_ c_, .int .i64 x_]) 1).run Try.prog W_ = .ok (.int .i64 x_) W_ := (by intros; kernel_rfl); have n0_ := Aside0.mk (Kd.R_mono (ok' := fun k_ => True) (Kd.R_keptB (HO228.out) hkp (fun k_ hk_ hs_ => (hk_.2) hs_)) (fun k_ hk_ => trivial)); have n1_ := Aside0.mk (Kd.V_mono (ok' := fun k_ => True) ho0 (fun k_ hk_ => trivial)); have n2_ := Aside0.mk (hb); clear HO228; clear HB; clear HO225; have HO228 := n0_; have HO231 := n1_; have HB := n2_; clear n0_ n1_ n2_; (try clear hb); (try clear hkp); (try clear ho0)))
   go_ret2
   exact ⟨by first | rfl | (simp [errW_none, errW_some] <;> rfl) | (simp [*, errW_none, errW_some] <;> rfl), by repeat (first | (with_reducible first | exact HB.out | apply below_alloc | apply pw_below_drewN | apply below_drew1) | exact HB.out)⟩
 ·replace c4 := Bool.eq_false_iff.mpr c4
  subst c4
  have H1 : (some (0, false)) = some (r1, r2) := by rw [if_neg (show ¬ (false = true) by decide)] at H; exact H
  clear H; have H := H1; clear H1; simp only [Option.some.injEq, Prod.mk.injEq] at H; obtain ⟨rfl, rfl⟩ := H
  go_enter Try.func25, Try.ntmps25
  go_wp2_with (first | ((with_reducible refine gate_callee (f := 60) rfl ?_); refine goesL_ (some 8) rfl rfl Try.func60 (by kernel_rfl) rfl #[.slice A0 l0.length c0, .int .i64 a1] rfl (by (try simp only [List.map_toArray, List.map_cons, List.map_nil]); first | done | rfl | (simp only [List.length_drop, List.length_take]; rfl)) ?_; (with_reducible refine (spec_l9Ask.calls k _ _ l0 a1 false _ ?side1 ?side2 A3.out).mono ?_); (case side1 => repeat (first | exact HR0.out | (with_reducible refine Kd.C_alloc ?_ _) | (with_reducible refine Kd.C_drewN ?_ _) | (with_reducible refine Kd.C_drew ?_))); (case side2 => exact HC0.out); rintro e w' ⟨rfl, ⟨nd, rfl⟩⟩; refine ⟨_, rfl, ?_⟩))
  go_ret2
  exact ⟨by first | rfl | (simp [errW_none, errW_some] <;> rfl) | (simp [*, errW_none, errW_some] <;> rfl), by repeat (first | (with_reducible first | exact HB.out | apply below_alloc | apply pw_below_drewN | apply below_drew1) | exact HB.out)⟩

end Go.Proofs.Ytkedfmmmjopofaa.XSe
