/- Functions of the program as plain Lean functions, each with the proof that the machine's call does what it says: written by a program of this session out of the translation. -/
import Derived.Test.YtkedfmmmjopofaaXSex0
import Derived.Test.YtkedfmmmjopofaaXSex5
namespace Go.Proofs.Ytkedfmmmjopofaa.XSe
open Go.RowKit Go.Proofs.YtkedfmmmjopofaaW.PrintWords Go.Proofs.YtkedfmmmjopofaaW.PrintLast Go.Proofs.YtkedfmmmjopofaaW.PrintMore
attribute [local go_sem] max2_int min2_int max_two min_two max_three min_three max_four min_four   -- for this text's walks alone
set_option linter.unusedVariables false
set_option linter.unusedSimpArgs false

/-! ### impl_FirstEven_1: function 65, by hand -/
-- needs 66
/-- What the closure tells of an even seating, and what it holds behind it. -/
def impl_FirstEven_1.f (st : List Int) (s : List Int × Bool) : Option (Bool × (List Int × Bool)) := (slices_Clone.f st).bind fun t => some (false, (t, true))
/-- The two variables that the closure holds, beside the row of seats at ga. -/
def impl_FirstEven_1.J (w0 : World) (g1 g2 ga : Nat) (w : World) (s : List Int × Bool) : Prop :=
 Below w0.heap.size w0 w ∧ (∃ A n c, w.heap[g1]? = some (.cells #[.slice A n c] 22 (0, 0)) ∧ Kd.R (Kd.int .i64) 3 w w0.heap.size (fun k => k ≠ g1 ∧ k ≠ g2 ∧ k ≠ ga) (.slice A n c) s.1) ∧ w.heap[g2]? = some (.cells #[.bool s.2] 4 (0, 0)) ∧ (g1 ≠ g2 ∧ g1 ≠ ga ∧ g2 ≠ ga) ∧ w0.heap.size ≤ g1 ∧ w0.heap.size ≤ g2 ∧ w0.heap.size ≤ ga
theorem impl_FirstEven_1.J_base {w0 w : World} {g1 g2 ga : Nat} {s : List Int × Bool} (h : impl_FirstEven_1.J w0 g1 g2 ga w s) : Below w0.heap.size w0 w := h.1
theorem impl_FirstEven_1.J_ga {w0 w : World} {g1 g2 ga : Nat} {s : List Int × Bool} (h : impl_FirstEven_1.J w0 g1 g2 ga w s) : w0.heap.size ≤ ga := h.2.2.2.2.2.2
theorem impl_FirstEven_1.J_below {w0 w w1 : World} {g1 g2 ga : Nat} {s : List Int × Bool} (h : impl_FirstEven_1.J w0 g1 g2 ga w s) (hb : Below w.heap.size w w1) : impl_FirstEven_1.J w0 g1 g2 ga w1 s := by
 obtain ⟨h1, ⟨A, n, c, h2, h3⟩, h4, h5⟩ := h; exact ⟨below_step h1 hb, ⟨A, n, c, blk_below h2 hb, Kd.R_below h3 hb⟩, blk_below h4 hb, h5⟩
theorem impl_FirstEven_1.J_seat {w0 w : World} {g1 g2 ga : Nat} {s : List Int × Bool} (h : impl_FirstEven_1.J w0 g1 g2 ga w s) (j : Nat) (u : Value) : impl_FirstEven_1.J w0 g1 g2 ga (w.setCell ⟨ga, j, none⟩ u) s := by
 obtain ⟨h1, ⟨A, n, c, h2, h3⟩, h4, h5⟩ := h; exact ⟨below_set h1 h5.2.2.2, ⟨A, n, c, blk_far h2 h5.1.2.1 _, Kd.R_step h3 (fun k hk _ => Below.heap_setCell _ _ _ k hk.2.2)⟩, blk_far h4 h5.1.2.2 _, h5⟩
theorem impl_FirstEven_1.slice_of {w : World} {base : Nat} {ok : Nat → Prop} {v : Value} {l : List Int} (ho : Kd.R (Kd.int .i64) 3 w base ok v l) : ∃ A n c, v = .slice A n c := by
 obtain ⟨_, inner, ⟨_, ho2⟩, _⟩ := ho
 rcases ho2 with ⟨hv, _⟩ | ⟨g, cap, cur, hv, _⟩
 ·exact ⟨_, _, _, hv⟩
 ·exact ⟨_, _, _, hv⟩
theorem impl_FirstEven_1.J_found {w0 w w1 : World} {g1 g2 ga : Nat} {s : List Int × Bool} (hJ : impl_FirstEven_1.J w0 g1 g2 ga w s) (hlt : ga < w.heap.size) (hB : Below w.heap.size w w1) {A : Option Addr} {n c : Nat} {l : List Int} (ho : Kd.R (Kd.int .i64) 3 w1 w.heap.size (fun _ => True) (.slice A n c) l) :
  impl_FirstEven_1.J w0 g1 g2 ga ((w1.setCell ⟨g1, 0, none⟩ (.slice A n c)).setCell ⟨g2, 0, none⟩ (.bool true)) (l, true) ∧ ∀ i, i < w.heap.size → i ≠ g1 → i ≠ g2 → ((w1.setCell ⟨g1, 0, none⟩ (.slice A n c)).setCell ⟨g2, 0, none⟩ (.bool true)).heap[i]? = w.heap[i]? := by
 have l1 : g1 < w.heap.size := by obtain ⟨_, ⟨_, _, _, h3, _⟩, _⟩ := hJ; exact blk_lt h3
 have l2 : g2 < w.heap.size := blk_lt hJ.2.2.1; have hs := hJ.1.size; obtain ⟨h1, ⟨A', n', c', h2, h3⟩, h4, ⟨hne, hn1, hn2⟩, hg1, hg2, hga⟩ := impl_FirstEven_1.J_below hJ hB; refine ⟨⟨below_set (below_set h1 hg1) hg2, ⟨A, n, c, ?_, ?_⟩, ?_, ⟨hne, hn1, hn2⟩, hg1, hg2, hga⟩, fun i hi k1 k2 => ?_⟩
 ·exact blk_far (p := ⟨g2, 0, none⟩) (by simpa using blk_set h2 0 (.slice A n c)) hne _
 ·refine Kd.R_step (w := w1) (Kd.R_lower (Kd.R_mono (Kd.R_bound ho) (fun k hk => (⟨fun e => by have := hk.2.1; omega, fun e => by have := hk.2.1; omega, fun e => by have := hk.2.1; omega⟩ : k ≠ g1 ∧ k ≠ g2 ∧ k ≠ ga))) hs) (fun k hk _ => ?_)
  exact (Below.heap_setCell _ _ _ k hk.2.1).trans (Below.heap_setCell _ _ _ k hk.1)
 ·simpa using blk_set (blk_far h4 (p := ⟨g1, 0, none⟩) (Ne.symm hne) (.slice A n c)) 0 (.bool true)
 ·exact ((Below.heap_setCell _ _ _ i k2).trans (Below.heap_setCell _ _ _ i k1)).trans (hB.block i hi)
set_option maxHeartbeats 8000000 in
set_option maxRecDepth 100000 in
theorem impl_FirstEven_1.calls (g1 g2 ga n : Nat) (st : List Int) (s : List Int × Bool) (b : Bool) (r : List Int × Bool) (w0 w : World) (hJ : impl_FirstEven_1.J w0 g1 g2 ga w s) (hlt : ga < w.heap.size) (hn : st.length = n) (hr : Kd.C (Kd.int .i64) w (some ⟨ga, 0, none⟩) st.length st) (h : impl_FirstEven_1.f st s = some (b, r)) :
  Calls Try.prog 65 #[.slice (some ⟨ga, 0, none⟩) n n, .pointer (some ⟨g1, 0, none⟩), .pointer (some ⟨g2, 0, none⟩)] w fun e w' => e = .returned (.bool b) ∧ impl_FirstEven_1.J w0 g1 g2 ga w' r ∧ ∀ i, i < w.heap.size → i ≠ g1 → i ≠ g2 → w'.heap[i]? = w.heap[i]? := by
 subst hn; have HJ := Aside0.mk hJ; have HR := Aside0.mk hr; have HL := Aside0.mk hlt; have NE := hJ.2.2.2.1.1; have NE' : g2 ≠ g1 := Ne.symm NE; clear hJ hr hlt; obtain ⟨t, A1_, H⟩ := Option.bind_eq_some_iff.mp h; clear h; have Q1 := Aside0.mk A1_; clear A1_
 obtain ⟨rfl, rfl⟩ : false = b ∧ (t, true) = r := by simpa using H
 clear H; have HB := Aside0.mk (Below.refl w.heap.size w)
 go_enter Try.func65, Try.ntmps65
 go_wp2_with (first | (go_at_call 66; refine (slices_Clone.calls (some ⟨ga, 0, none⟩) st.length st t _ (Kd.C_below HR.out (by repeat (first | (with_reducible first | exact HB.out | apply below_alloc | apply pw_below_drewN | apply below_drew1) | exact HB.out))) (Nat.le_refl _) Q1.out).mono ?_; rintro e w6 ⟨v6, rfl, ho6, hb6⟩; obtain ⟨A6, n6, c6, rfl⟩ := impl_FirstEven_1.slice_of ho6; have HO6 := Aside0.mk (Kd.R_lower ho6 (below_size (by repeat (first | (with_reducible first | exact HB.out | apply below_alloc | apply pw_below_drewN | apply below_drew1) | exact HB.out)))); have n0_ := Aside0.mk (below_step (by repeat (first | (with_reducible first | exact HB.out | apply below_alloc | apply pw_below_drewN | apply below_drew1) | exact HB.out)) hb6); clear HB; have HB := n0_; clear n0_ ho6 hb6; obtain ⟨_, ⟨_, _, _, hg1_, _⟩, hg2_, _⟩ := impl_FirstEven_1.J_below HJ.out HB.out; have cz1 := blk_cell hg1_ 0; replace cz1 := cz1.trans rfl; have fz1 := blk_frozen hg1_ 0; have cz2 := blk_cell hg2_ 0; replace cz2 := cz2.trans rfl; have fz2 := blk_frozen hg2_ 0; clear hg1_ hg2_))
 repeat (go_quiet (fail); try go_wp2)
 go_ret; exact ⟨rfl, impl_FirstEven_1.J_found HJ.out HL.out (by repeat (first | (with_reducible first | exact HB.out | apply below_alloc | apply pw_below_drewN | apply below_drew1) | exact HB.out)) (by (with_reducible repeat (first | apply Kd.R_alloc | apply Kd.R_drewN | apply Kd.R_drew)); exact HO6.out)⟩
/-- The two variables that the closure holds. -/
def impl_FirstEven_1.J0 (w0 : World) (g1 g2 : Nat) (w : World) (s : List Int × Bool) : Prop :=
 Below w0.heap.size w0 w ∧ (∃ A n c, w.heap[g1]? = some (.cells #[.slice A n c] 22 (0, 0)) ∧ Kd.R (Kd.int .i64) 3 w w0.heap.size (fun k => k ≠ g1 ∧ k ≠ g2) (.slice A n c) s.1) ∧ w.heap[g2]? = some (.cells #[.bool s.2] 4 (0, 0)) ∧ g1 ≠ g2 ∧ w0.heap.size ≤ g1 ∧ w0.heap.size ≤ g2
theorem impl_FirstEven_1.J_of {w0 w w1 : World} {g1 g2 ga : Nat} {s : List Int × Bool} (h : impl_FirstEven_1.J0 w0 g1 g2 w s) (hb : Below w.heap.size w w1) (hg : w.heap.size ≤ ga) : impl_FirstEven_1.J w0 g1 g2 ga w1 s := by
 obtain ⟨h1, ⟨A, n, c, h2, h3⟩, h4, h5, h6, h7⟩ := h; have l1 := blk_lt h2; have l2 := blk_lt h4; have hs := h1.size; refine ⟨below_step h1 hb, ⟨A, n, c, blk_below h2 hb, ?_⟩, blk_below h4 hb, ⟨h5, by omega, by omega⟩, h6, h7, by omega⟩; exact Kd.R_below (Kd.R_mono (Kd.R_bound h3) (fun k hk => (⟨hk.1.1, hk.1.2, by have := hk.2.2.1; omega⟩ : k ≠ g1 ∧ k ≠ g2 ∧ k ≠ ga))) hb
theorem impl_FirstEven_1.J_to {w0 w : World} {g1 g2 ga : Nat} {s : List Int × Bool} (h : impl_FirstEven_1.J w0 g1 g2 ga w s) : impl_FirstEven_1.J0 w0 g1 g2 w s := by
 obtain ⟨h1, ⟨A, n, c, h2, h3⟩, h4, h5, h6, h7, _⟩ := h; exact ⟨h1, ⟨A, n, c, h2, Kd.R_mono h3 (fun k hk => ⟨hk.1, hk.2.1⟩)⟩, h4, h5.1, h6, h7⟩
theorem impl_FirstEven_1.start {w W : World} {g6 g7 : Nat} {A : Option Addr} {n c : Nat} (hB : Below w.heap.size w W) (b6 : W.heap[g6]? = some (.cells #[.slice none 0 0] 22 (0, 0))) (b7 : W.heap[g7]? = some (.cells #[.bool false] 4 (0, 0))) (hne : g6 ≠ g7) (h6 : w.heap.size ≤ g6) (h7 : w.heap.size ≤ g7) (ho : Kd.R (Kd.int .i64) 3 W w.heap.size (fun k => k ≠ g6 ∧ k ≠ g7) (.slice A n c) ([] : List Int)) :
  impl_FirstEven_1.J0 w g6 g7 ((W.setCell ⟨g6, 0, none⟩ (.slice A n c)).setCell ⟨g7, 0, none⟩ (.bool false)) (([] : List Int), false) := by
 refine ⟨below_set (below_set hB h6) h7, ⟨A, n, c, ?_, ?_⟩, ?_, hne, h6, h7⟩
 ·exact blk_far (p := ⟨g7, 0, none⟩) (by simpa using blk_set b6 0 (.slice A n c)) hne _
 ·exact Kd.R_step ho (fun k hk _ => (Below.heap_setCell _ _ _ k hk.2).trans (Below.heap_setCell _ _ _ k hk.1))
 ·simpa using blk_set (blk_far b7 (p := ⟨g6, 0, none⟩) (Ne.symm hne) (.slice A n c)) 0 (.bool false)
theorem impl_FirstEven_1.J0_below {w0 w w1 : World} {g1 g2 : Nat} {s : List Int × Bool} (h : impl_FirstEven_1.J0 w0 g1 g2 w s) (hb : Below w.heap.size w w1) : impl_FirstEven_1.J0 w0 g1 g2 w1 s := by
 obtain ⟨h1, ⟨A, n, c, h2, h3⟩, h4, h5⟩ := h; exact ⟨below_step h1 hb, ⟨A, n, c, blk_below h2 hb, Kd.R_below h3 hb⟩, blk_below h4 hb, h5⟩
theorem impl_FirstEven_1.J0_drewN {w0 w : World} {g1 g2 : Nat} {s : List Int × Bool} (h : impl_FirstEven_1.J0 w0 g1 g2 w s) (m : Nat) : impl_FirstEven_1.J0 w0 g1 g2 (w.drewN m) s := impl_FirstEven_1.J0_below h (pw_below_drewN (Below.refl _ _) m)
theorem impl_FirstEven_1.J0_drew {w0 w : World} {g1 g2 : Nat} {s : List Int × Bool} (h : impl_FirstEven_1.J0 w0 g1 g2 w s) : impl_FirstEven_1.J0 w0 g1 g2 w.drew s := impl_FirstEven_1.J0_below h (below_drew (Below.refl _ _))

/-! ### impl_eachEven_FirstEven_1: function 63, by hand -/
mutual
/-- All seats from one weight on. -/
def impl_eachEven_FirstEven_1.fr : Nat → List Int → Int → List Int → Int → Int → List Int × Bool → Option (Bool × List Int × List Int × Bool)
 | 0, _, _, _, _, _, _ => none
 | k + 1, ws, kk, st, at_, m, s => if at_ = (ws.length : Int) then (if m = 0 then ((impl_FirstEven_1.f st s).bind fun r => some (r.1, st, r.2)) else some (true, st, s)) else impl_eachEven_FirstEven_1.lp k ws kk st at_ m s (wrap64 (30 - kk))
def impl_eachEven_FirstEven_1.lp : Nat → List Int → Int → List Int → Int → Int → List Int × Bool → Int → Option (Bool × List Int × List Int × Bool)
 | 0, _, _, _, _, _, _, _ => none
 | k + 1, ws, kk, st, at_, m, s, p => if p ≤ wrap64 (30 + kk) then (if p = 30 then impl_eachEven_FirstEven_1.lp k ws kk st at_ m s (wrap64 (p + 1)) else (if 0 ≤ at_ then (if at_ < (st.length : Int) then (if at_ < (ws.length : Int) then ((slices_Contains.f k (st.take at_.toNat) p).bind fun c => if c = true then impl_eachEven_FirstEven_1.lp k ws kk st at_ m s (wrap64 (p + 1)) else ((impl_eachEven_FirstEven_1.fr k ws kk (st.set at_.toNat p) (wrap64 (at_ + 1)) (wrap64 (m + wrap64 (rd ws at_ * wrap64 (p - 30)))) s).bind fun r => if r.1 = true then impl_eachEven_FirstEven_1.lp k ws kk r.2.1 at_ m r.2.2 (wrap64 (p + 1)) else some (false, r.2.1, r.2.2))) else none) else none) else none)) else some (true, st, s)
end
/-- All even seatings. -/
def impl_eachEven_FirstEven_1.f (k : Nat) (ws : List Int) (kk : Int) (s : List Int × Bool) : Option (List Int × Bool) := if ws.length ≤ 1000000 then ((impl_eachEven_FirstEven_1.fr k ws kk (List.replicate ws.length 0) 0 0 s).bind fun r => some r.2.2) else none
theorem impl_eachEven_FirstEven_1.mono_l : ∀ k, (∀ ws kk st at_ m s, LeO (impl_eachEven_FirstEven_1.fr k ws kk st at_ m s) (impl_eachEven_FirstEven_1.fr (k + 1) ws kk st at_ m s)) ∧ (∀ ws kk st at_ m s p, LeO (impl_eachEven_FirstEven_1.lp k ws kk st at_ m s p) (impl_eachEven_FirstEven_1.lp (k + 1) ws kk st at_ m s p)) := by
 intro k
 induction k with
 | zero => exact ⟨fun _ _ _ _ _ _ r h => by simp [impl_eachEven_FirstEven_1.fr] at h, fun _ _ _ _ _ _ _ r h => by simp [impl_eachEven_FirstEven_1.lp] at h⟩
 | succ k ih =>
  obtain ⟨i1, i2⟩ := ih; refine ⟨?_, ?_⟩
  ·intro ws kk st at_ m s
   unfold impl_eachEven_FirstEven_1.fr
   exact LeO.ite (LeO.refl _) (i2 _ _ _ _ _ _ _)
  ·intro ws kk st at_ m s p
   unfold impl_eachEven_FirstEven_1.lp
   refine LeO.ite (LeO.ite (i2 _ _ _ _ _ _ _) (LeO.ite (LeO.ite (LeO.ite ?_ (LeO.refl _)) (LeO.refl _)) (LeO.refl _))) (LeO.refl _); refine LeO.bind (slices_Contains.mono _ _ _) (fun _ => LeO.ite (i2 _ _ _ _ _ _ _) ?_); exact LeO.bind (i1 _ _ _ _ _ _) (fun _ => LeO.ite (i2 _ _ _ _ _ _ _) (LeO.refl _))
theorem impl_eachEven_FirstEven_1.mono : ∀ ws kk s k, LeO (impl_eachEven_FirstEven_1.f k ws kk s) (impl_eachEven_FirstEven_1.f (k + 1) ws kk s) := by
 intro ws kk s k
 unfold impl_eachEven_FirstEven_1.f
 exact LeO.ite (LeO.bind ((impl_eachEven_FirstEven_1.mono_l k).1 _ _ _ _ _ _) (fun _ => LeO.refl _)) (LeO.refl _)
/-- What lies in memory while it goes through the seatings. -/
def impl_eachEven_FirstEven_1.S (w0 : World) (g1 g2 : Nat) (gs ga n : Nat) (Aw : Option Addr) (cw : Nat) (ws : List Int) (kk : Int) (w : World) (st : List Int) (s : List Int × Bool) : Prop :=
 impl_FirstEven_1.J w0 g1 g2 ga w s ∧ w.heap[gs]? = some (.cells #[.slice Aw ws.length cw, .slice (some ⟨ga, 0, none⟩) n n, .int .i64 kk, .func (.func 65) #[] #[.pointer (some ⟨g1, 0, none⟩), .pointer (some ⟨g2, 0, none⟩)]] 90 (0, 0)) ∧ w.heap[ga]? = some (.cells (st.map (Value.int .i64)).toArray 3 (0, 0)) ∧ st.length = n ∧ n ≤ 1000000 ∧ gs ≠ ga ∧ gs ≠ g1 ∧ gs ≠ g2
section
variable {w0 w w1 : World} {g1 g2 gs ga n : Nat} {Aw : Option Addr} {cw : Nat} {ws st : List Int} {kk : Int} {s r : List Int × Bool}
theorem impl_eachEven_FirstEven_1.S_below (h : impl_eachEven_FirstEven_1.S w0 g1 g2 gs ga n Aw cw ws kk w st s) (hb : Below w.heap.size w w1) : impl_eachEven_FirstEven_1.S w0 g1 g2 gs ga n Aw cw ws kk w1 st s :=
 ⟨impl_FirstEven_1.J_below h.1 hb, blk_below h.2.1 hb, blk_below h.2.2.1 hb, h.2.2.2⟩
theorem impl_eachEven_FirstEven_1.S_drewN (h : impl_eachEven_FirstEven_1.S w0 g1 g2 gs ga n Aw cw ws kk w st s) (m : Nat) : impl_eachEven_FirstEven_1.S w0 g1 g2 gs ga n Aw cw ws kk (w.drewN m) st s := impl_eachEven_FirstEven_1.S_below h (pw_below_drewN (Below.refl _ _) m)
theorem impl_eachEven_FirstEven_1.S_drew (h : impl_eachEven_FirstEven_1.S w0 g1 g2 gs ga n Aw cw ws kk w st s) : impl_eachEven_FirstEven_1.S w0 g1 g2 gs ga n Aw cw ws kk w.drew st s := impl_eachEven_FirstEven_1.S_below h (below_drew (Below.refl _ _))
theorem impl_eachEven_FirstEven_1.S_seat (h : impl_eachEven_FirstEven_1.S w0 g1 g2 gs ga n Aw cw ws kk w st s) (j : Nat) (p : Int) : impl_eachEven_FirstEven_1.S w0 g1 g2 gs ga n Aw cw ws kk (w.setCell ⟨ga, j, none⟩ (.int .i64 p)) (st.set j p) s :=
 ⟨impl_FirstEven_1.J_seat h.1 j _, blk_far h.2.1 h.2.2.2.2.2.1 _, blk_put h.2.2.1 j _ (by simp [List.map_set]), by rw [List.length_set]; exact h.2.2.2.1, h.2.2.2.2⟩
theorem impl_eachEven_FirstEven_1.S_tell (h : impl_eachEven_FirstEven_1.S w0 g1 g2 gs ga n Aw cw ws kk w st s) (hj : impl_FirstEven_1.J w0 g1 g2 ga w1 r) (hk : ∀ i, i < w.heap.size → i ≠ g1 → i ≠ g2 → w1.heap[i]? = w.heap[i]?) : impl_eachEven_FirstEven_1.S w0 g1 g2 gs ga n Aw cw ws kk w1 st r :=
 ⟨hj, (hk gs (blk_lt h.2.1) h.2.2.2.2.2.2.1 h.2.2.2.2.2.2.2).trans h.2.1, (hk ga (blk_lt h.2.2.1) (Ne.symm h.1.2.2.2.1.2.1) (Ne.symm h.1.2.2.2.1.2.2)).trans h.2.2.1, h.2.2.2⟩
theorem impl_eachEven_FirstEven_1.S_row (h : impl_eachEven_FirstEven_1.S w0 g1 g2 gs ga n Aw cw ws kk w st s) : Kd.C (Kd.int .i64) w (some ⟨ga, 0, none⟩) st.length st :=
 Kd.C_of_reads (enc := Value.int .i64) (d := 0) (h1 := fun _ => rfl) ⟨rfl, (by have h1 := h.2.2.2.1; have h2 := h.2.2.2.2.1; omega), fun _ => ⟨_, rfl, fun j hj => by
  rw [add_plain, blk_cell h.2.2.1]
  simp [hj]⟩⟩
theorem impl_eachEven_FirstEven_1.S_cells (h : impl_eachEven_FirstEven_1.S w0 g1 g2 gs ga n Aw cw ws kk w st s) : w.cell? ⟨gs, 0, none⟩ = some (.slice Aw ws.length cw) ∧ w.cell? ⟨gs, 1, none⟩ = some (.slice (some ⟨ga, 0, none⟩) n n) ∧ w.cell? ⟨gs, 2, none⟩ = some (.int .i64 kk) ∧ w.cell? ⟨gs, 3, none⟩ = some (.func (.func 65) #[] #[.pointer (some ⟨g1, 0, none⟩), .pointer (some ⟨g2, 0, none⟩)]) :=
 ⟨(blk_cell h.2.1 0).trans rfl, (blk_cell h.2.1 1).trans rfl, (blk_cell h.2.1 2).trans rfl, (blk_cell h.2.1 3).trans rfl⟩
theorem impl_eachEven_FirstEven_1.S_cut (h : impl_eachEven_FirstEven_1.S w0 g1 g2 gs ga n Aw cw ws kk w st s) {at_ : Int} (h0 : 0 ≤ at_) (h1 : at_ < (st.length : Int)) : (∀ W : World, (Instr.slice 22 (.slice (some ⟨ga, 0, none⟩) n n) none (some (.int .i64 at_)) none).run Try.prog W = .ok (.slice (some ⟨ga, 0, none⟩) at_.toNat n) W) ∧ ∀ (w2 : World) (k : Nat) (p : Int) (b : Bool), w.heap[ga]? = w2.heap[ga]? → slices_Contains.f k (st.take at_.toNat) p = some b → Calls Try.prog 87 #[.slice (some ⟨ga, 0, none⟩) at_.toNat n, .int .i64 p] w2 fun e w' => e = .returned (.bool b) ∧ Drawn0 w2 w' := by
 have hn := h.2.2.2.1
 have hl : (st.take at_.toNat).length = at_.toNat := by rw [List.length_take]; omega
 obtain ⟨i0, hi0, _, hsz, _⟩ := info_parts info3; obtain ⟨q1, q2, q3⟩ := print_take_of (P := Try.prog) (Value.int .i64) 0 22 3 .i64 Try.underlying22 hi0 hsz (some ⟨ga, 0, none⟩) n st at_ h0 (by omega) (by omega); rw [hn, hl] at q1; refine ⟨q1, fun w2 k p b e hc => ?_⟩
 have hr : Kd.C (Kd.int .i64) w2 (some ⟨ga, 0, none⟩) (st.take at_.toNat).length (st.take at_.toNat) := by
  refine Kd.C_of_reads (enc := Value.int .i64) (d := 0) (h1 := fun _ => rfl) (q2 _ ⟨rfl, (by have h2 := h.2.2.2.2.1; omega), fun _ => ⟨_, rfl, fun j hj => ?_⟩⟩); rw [add_plain, blk_cell (e.symm.trans h.2.2.1)]
  simp [hj]
 have key := slices_Contains.calls k (some ⟨ga, 0, none⟩) n (st.take at_.toNat) p b w2 hr q3 hc; rw [hl] at key; exact key
theorem impl_eachEven_FirstEven_1.S_cell (h : impl_eachEven_FirstEven_1.S w0 g1 g2 gs ga n Aw cw ws kk w st s) {at_ : Int} (h0 : 0 ≤ at_) (h1 : at_ < (st.length : Int)) : w.cell? ⟨ga, at_.toNat, none⟩ = some (.int .i64 (rd st at_)) ∧ w.frozen? ⟨ga, at_.toNat, none⟩ = false := by
 refine ⟨?_, blk_frozen h.2.2.1 _⟩; rw [blk_cell h.2.2.1]
 have hj : at_.toNat < st.length := by omega
 unfold rd
 simp [hj]
end
set_option maxHeartbeats 8000000 in
set_option maxRecDepth 100000 in
theorem impl_eachEven_FirstEven_1.fr_calls (g1 g2 : Nat) (gs ga n : Nat) (Aw : Option Addr) (cw : Nat) (ws : List Int) (kk : Int) (w0 : World) (hrw : Kd.C (Kd.int .i64) w0 Aw ws.length ws) (hcw : ws.length ≤ cw) (k : Nat) : ∀ (st : List Int) (at_ m : Int) (s : List Int × Bool) (b : Bool) (st2 : List Int) (r : List Int × Bool) (w : World), impl_eachEven_FirstEven_1.S w0 g1 g2 gs ga n Aw cw ws kk w st s → impl_eachEven_FirstEven_1.fr k ws kk st at_ m s = some (b, st2, r) →
  Calls Try.prog 83 #[.pointer (some ⟨gs, 0, none⟩), .int .i64 at_, .int .i64 m] w fun e w' => e = .returned (.bool b) ∧ impl_eachEven_FirstEven_1.S w0 g1 g2 gs ga n Aw cw ws kk w' st2 r := by
 have HRW := Aside0.mk hrw; have HCW := Aside0.mk hcw; clear hrw hcw
 induction k using Nat.strongRecOn with
 | _ k ih =>
 intro st at_ m s b st2 r w hS h
 cases k with
 | zero => exact absurd h (by simp [impl_eachEven_FirstEven_1.fr])
 | succ k =>
 have HS := Aside0.mk hS; have HI := Aside0.mk ih; obtain ⟨c0, c1, c2, c3⟩ := impl_eachEven_FirstEven_1.S_cells hS; clear hS ih; have H := h; clear h; simp only [impl_eachEven_FirstEven_1.fr] at H
 by_cases ca : at_ = (ws.length : Int)
 ·rw [if_pos ca] at H
  have cab : (at_ == (ws.length : Int)) = true := beq_iff_eq.2 ca; clear ca
  by_cases cm : m = 0
  ·rw [if_pos cm] at H
   have cmb : (m == 0) = true := beq_iff_eq.2 cm
   have cmc : (m != 0) = false := by rw [bne, cmb]; rfl
   clear cm; obtain ⟨⟨b1, r1⟩, A1_, H⟩ := Option.bind_eq_some_iff.mp H; have Q1 := Aside0.mk A1_; clear A1_
   obtain ⟨rfl, rfl, rfl⟩ : b1 = b ∧ st = st2 ∧ r1 = r := by simpa using H
   clear H
   go_enter Try.func83, Try.ntmps83
   go_wp2
   go_region_with (go_at_call 65; refine (impl_FirstEven_1.calls g1 g2 ga n st s b1 r1 w0 _ ?hj (blk_lt (impl_eachEven_FirstEven_1.S_drew HS.out).2.2.1) HS.out.2.2.2.1 ?hr Q1.out).mono ?_; (case hj => exact (impl_eachEven_FirstEven_1.S_drew HS.out).1); (case hr => exact impl_eachEven_FirstEven_1.S_row (impl_eachEven_FirstEven_1.S_drew HS.out)); rintro e w19 ⟨rfl, hj, hk⟩; have HS2 := Aside0.mk (impl_eachEven_FirstEven_1.S_tell (impl_eachEven_FirstEven_1.S_drew HS.out) hj hk); clear hj hk)
   all_goals (try go_wp2)
   all_goals go_ret
   all_goals exact ⟨by first | rfl | (simp <;> rfl), by repeat (first | (with_reducible first | exact HS2.out | apply impl_eachEven_FirstEven_1.S_drewN | apply impl_eachEven_FirstEven_1.S_drew) | exact HS2.out)⟩
  ·rw [if_neg cm] at H
   have cmb : (m == 0) = false := beq_eq_false_iff_ne.2 cm
   have cmc : (m != 0) = true := by rw [bne, cmb]; rfl
   clear cm
   obtain ⟨rfl, rfl, rfl⟩ : true = b ∧ st = st2 ∧ s = r := by simpa using H
   clear H
   go_enter Try.func83, Try.ntmps83
   go_wp2
   repeat (go_quiet (fail); try go_wp2)
   go_ret; exact ⟨by first | rfl | (simp <;> rfl), by repeat (first | (with_reducible first | exact HS.out | apply impl_eachEven_FirstEven_1.S_drewN | apply impl_eachEven_FirstEven_1.S_drew) | exact HS.out)⟩
 ·rw [if_neg ca] at H
  have cab : (at_ == (ws.length : Int)) = false := beq_eq_false_iff_ne.2 ca; clear ca; have H' := Aside0.mk H; clear H
  go_enter Try.func83, Try.ntmps83
  go_wp2
  go_loopg [7] k (fun kq v7 w' => ∃ (p_ : Int) (st1 : List Int) (s1 : List Int × Bool), v7 = .int .i64 p_ ∧ Aside0 (impl_eachEven_FirstEven_1.lp kq ws kk st1 at_ m s1 p_ = some (b, st2, r)) ∧ Aside0 (kq ≤ k) ∧ Aside0 (impl_eachEven_FirstEven_1.S w0 g1 g2 gs ga n Aw cw ws kk w' st1 s1))
  case atStart => exact ⟨wrap64 (30 - kk), st, s, (by first | rfl | (simp; done) | (simp [*]; done)), H', ⟨Nat.le_refl _⟩, ⟨by repeat (first | (with_reducible first | exact HS.out | apply impl_eachEven_FirstEven_1.S_drewN | apply impl_eachEven_FirstEven_1.S_drew) | exact HS.out)⟩⟩
  case round =>
   clear H' HS c0 c1 c2 c3; obtain ⟨p_, st1, s1, rfl, HA, HK, HS⟩ := hrel; obtain ⟨c0, c1, c2, c3⟩ := impl_eachEven_FirstEven_1.S_cells HS.out
   cases gk with
   | zero => exact absurd HA.out (by simp [impl_eachEven_FirstEven_1.lp])
   | succ kq =>
   have H := HA.out; clear HA; simp only [impl_eachEven_FirstEven_1.lp] at H
   by_cases cp : p_ ≤ wrap64 (30 + kk)
   ·rw [if_pos cp] at H
    have cpb : decide (p_ ≤ wrap64 (30 + kk)) = true := decide_eq_true cp; clear cp
    by_cases c30 : p_ = 30
    ·rw [if_pos c30] at H
     have c3b : (p_ == 30) = true := beq_iff_eq.2 c30; clear c30; have H' := Aside0.mk H; clear H; go_wp2; go_roundg kq
     case measure => omega
     case rel => exact ⟨wrap64 (p_ + 1), st1, s1, (by first | rfl | (simp; done) | (simp [*]; done)), H', ⟨by have := HK.out; omega⟩, ⟨by repeat (first | (with_reducible first | exact HS.out | apply impl_eachEven_FirstEven_1.S_drewN | apply impl_eachEven_FirstEven_1.S_drew) | exact HS.out)⟩⟩
    ·rw [if_neg c30] at H
     have c3b : (p_ == 30) = false := beq_eq_false_iff_ne.2 c30; clear c30
     by_cases d0 : 0 ≤ at_
     case neg => rw [if_neg d0] at H; exact absurd H (by simp)
     rw [if_pos d0] at H
     by_cases d1 : at_ < (st1.length : Int)
     case neg => rw [if_neg d1] at H; exact absurd H (by simp)
     rw [if_pos d1] at H
     by_cases d2 : at_ < (ws.length : Int)
     case neg => rw [if_neg d2] at H; exact absurd H (by simp)
     rw [if_pos d2] at H; obtain ⟨cc, A1_, H⟩ := Option.bind_eq_some_iff.mp H; have Q1 := Aside0.mk A1_; clear A1_; obtain ⟨hcut, hcall⟩ := impl_eachEven_FirstEven_1.S_cut HS.out d0 d1; have HCT := Aside0.mk hcall; clear hcall
     cases cc with
     | true =>
      replace H : impl_eachEven_FirstEven_1.lp kq ws kk st1 at_ m s1 (wrap64 (p_ + 1)) = some (b, st2, r) := H; have H' := Aside0.mk H; clear H; clear d0 d1 d2
      go_wp2_with (first | (go_at_call 87; refine (HCT.out _ kq p_ true rfl Q1.out).mono ?_; rintro e w' ⟨rfl, ⟨nd, rfl⟩⟩))
      go_roundg kq
      case measure => omega
      case rel => exact ⟨wrap64 (p_ + 1), st1, s1, (by first | rfl | (simp; done) | (simp [*]; done)), H', ⟨by have := HK.out; omega⟩, ⟨by repeat (first | (with_reducible first | exact HS.out | apply impl_eachEven_FirstEven_1.S_drewN | apply impl_eachEven_FirstEven_1.S_drew) | exact HS.out)⟩⟩
     | false =>
      obtain ⟨⟨b1, st3, s3⟩, A2_, H⟩ := Option.bind_eq_some_iff.mp (show ((impl_eachEven_FirstEven_1.fr kq ws kk (st1.set at_.toNat p_) (wrap64 (at_ + 1)) (wrap64 (m + wrap64 (rd ws at_ * wrap64 (p_ - 30)))) s1).bind fun r => if r.1 = true then impl_eachEven_FirstEven_1.lp kq ws kk r.2.1 at_ m r.2.2 (wrap64 (p_ + 1)) else some (false, r.2.1, r.2.2)) = some (b, st2, r) from H); have Q2 := Aside0.mk A2_; clear A2_; obtain ⟨ce, ze⟩ := impl_eachEven_FirstEven_1.S_cell HS.out d0 d1; have hn := HS.out.2.2.2.1
      have hng : at_ < (n : Int) := by omega
      have d0b : decide (0 ≤ at_) = true := decide_eq_true d0; have d1b : decide (at_ < (n : Int)) = true := decide_eq_true hng; have d2b : decide (at_ < (ws.length : Int)) = true := decide_eq_true d2; have d0c := eq_true d0; have d1c := eq_true hng; have d2c := eq_true d2; obtain ⟨ad9, e9, hx9⟩ := Kd.at_int HRW.out at_ d0 d2; cases e9; have HX9 := Aside0.mk hx9; clear d0 d1 d2 hn hng hx9; have HJB := Aside0.mk (impl_FirstEven_1.J_base HS.out.1)
      have rest : ∀ (W : World), impl_eachEven_FirstEven_1.S w0 g1 g2 gs ga n (some ad9) cw ws kk W (st1.set at_.toNat p_) s1 → Calls Try.prog 83 #[.pointer (some ⟨gs, 0, none⟩), .int .i64 (wrap64 (at_ + 1)), .int .i64 (wrap64 (m + wrap64 (rd ws at_ * wrap64 (p_ - 30))))] W fun e w' => e = .returned (.bool b1) ∧ impl_eachEven_FirstEven_1.S w0 g1 g2 gs ga n (some ad9) cw ws kk w' st3 s3 := fun W hW => HI.out kq (by have := HK.out; omega) _ _ _ _ _ _ _ _ hW Q2.out
      have HR := Aside0.mk rest; clear rest
      cases b1 with
      | true =>
       replace H : impl_eachEven_FirstEven_1.lp kq ws kk st3 at_ m s3 (wrap64 (p_ + 1)) = some (b, st2, r) := H; have H' := Aside0.mk H; clear H
       go_wp2_with (first | (go_at_call 87; refine (HCT.out _ kq p_ false rfl Q1.out).mono ?_; rintro e w' ⟨rfl, ⟨nd, rfl⟩⟩) | ((with_reducible refine gate_store (t := 3) (p := 60) rfl ?_); refine store_event (t := 3) (p := 60) (v := .tmp 59) (w1 := ((wr.drewN nd).setCell ⟨ga, at_.toNat, none⟩ (.int .i64 p_))) ?hg ?ho ?hn ?hr ?_; (case ho => rfl); (case hg => rfl); (case hn => rfl); (case hr => first | (go_simp; done) | (go_simp; rfl)); intro w9 hw9; have HS9 := Aside0.mk (show impl_eachEven_FirstEven_1.S w0 g1 g2 gs ga n (some ad9) cw ws kk w9 (st1.set at_.toNat p_) s1 from by rw [hw9]; exact impl_eachEven_FirstEven_1.S_seat (impl_eachEven_FirstEven_1.S_drewN HS.out nd) at_.toNat p_); obtain ⟨q0, q1, q2, q3⟩ := impl_eachEven_FirstEven_1.S_cells HS9.out; have HJ9 := impl_FirstEven_1.J_base HS9.out.1; have hz9 := (HJ9.cell (World.block_lt_of_cell? w0 _ HX9.out)).trans HX9.out; clear hw9 HJ9) | (go_at_call 83; refine (HR.out _ (by repeat (first | (with_reducible first | exact HS9.out | apply impl_eachEven_FirstEven_1.S_drewN | apply impl_eachEven_FirstEven_1.S_drew) | exact HS9.out))).mono ?_; rintro e w19 ⟨rfl, hs⟩; have HS3 := Aside0.mk hs; clear hs))
       go_roundg kq
       case measure => omega
       case rel => exact ⟨wrap64 (p_ + 1), st3, s3, (by first | rfl | (simp; done) | (simp [*]; done)), H', ⟨by have := HK.out; omega⟩, ⟨by repeat (first | (with_reducible first | exact HS3.out | apply impl_eachEven_FirstEven_1.S_drewN | apply impl_eachEven_FirstEven_1.S_drew) | exact HS3.out)⟩⟩
      | false =>
       obtain ⟨rfl, rfl, rfl⟩ : false = b ∧ st3 = st2 ∧ s3 = r := by simpa using H
       clear H
       go_wp2_with (first | (go_at_call 87; refine (HCT.out _ kq p_ false rfl Q1.out).mono ?_; rintro e w' ⟨rfl, ⟨nd, rfl⟩⟩) | ((with_reducible refine gate_store (t := 3) (p := 60) rfl ?_); refine store_event (t := 3) (p := 60) (v := .tmp 59) (w1 := ((wr.drewN nd).setCell ⟨ga, at_.toNat, none⟩ (.int .i64 p_))) ?hg ?ho ?hn ?hr ?_; (case ho => rfl); (case hg => rfl); (case hn => rfl); (case hr => first | (go_simp; done) | (go_simp; rfl)); intro w9 hw9; have HS9 := Aside0.mk (show impl_eachEven_FirstEven_1.S w0 g1 g2 gs ga n (some ad9) cw ws kk w9 (st1.set at_.toNat p_) s1 from by rw [hw9]; exact impl_eachEven_FirstEven_1.S_seat (impl_eachEven_FirstEven_1.S_drewN HS.out nd) at_.toNat p_); obtain ⟨q0, q1, q2, q3⟩ := impl_eachEven_FirstEven_1.S_cells HS9.out; have HJ9 := impl_FirstEven_1.J_base HS9.out.1; have hz9 := (HJ9.cell (World.block_lt_of_cell? w0 _ HX9.out)).trans HX9.out; clear hw9 HJ9) | (go_at_call 83; refine (HR.out _ (by repeat (first | (with_reducible first | exact HS9.out | apply impl_eachEven_FirstEven_1.S_drewN | apply impl_eachEven_FirstEven_1.S_drew) | exact HS9.out))).mono ?_; rintro e w19 ⟨rfl, hs⟩; have HS3 := Aside0.mk hs; clear hs))
       go_ret; exact ⟨by first | rfl | (simp <;> rfl), by repeat (first | (with_reducible first | exact HS3.out | apply impl_eachEven_FirstEven_1.S_drewN | apply impl_eachEven_FirstEven_1.S_drew) | exact HS3.out)⟩
   ·rw [if_neg cp] at H
    have cpb : decide (p_ ≤ wrap64 (30 + kk)) = false := decide_eq_false cp; clear cp
    obtain ⟨rfl, rfl, rfl⟩ : true = b ∧ st1 = st2 ∧ s1 = r := by simpa using H
    clear H; go_wp2; go_ret; exact ⟨by first | rfl | (simp <;> rfl), by repeat (first | (with_reducible first | exact HS.out | apply impl_eachEven_FirstEven_1.S_drewN | apply impl_eachEven_FirstEven_1.S_drew) | exact HS.out)⟩
theorem impl_eachEven_FirstEven_1.zeros (n : Nat) : madeCells #[Value.int .i64 0] n = ((List.replicate n (0 : Int)).map (Value.int .i64)).toArray := by
 apply Array.ext
 ·simp [madeCells]
 ·intro i h1 h2
  simp [madeCells, Nat.mod_one]
theorem impl_eachEven_FirstEven_1.make_event {ops : Array Oper} {rest : List Oper} {o : Oper} {a : Act} {F : Exit → Act → World → Prop} {W : World} (hgd : o.guard = none) {N : Tmp} (_hd : o.dst = some N) (x y : Operand) (ho : o.op = .makeSlice 22 x y) (n : Nat) (hx : a.eval x = .int .i64 (n : Int)) (hy : a.eval y = .int .i64 (n : Int)) (hn : n ≤ 1000000)
  (h : ∀ g, g = W.heap.size → ∀ w1, w1.heap[g]? = some (.cells ((List.replicate n (0 : Int)).map (Value.int .i64)).toArray 3 (0, 0)) → Below W.heap.size W w1 → wpList Try.prog ops F rest (a.put o.dst (.slice (some ⟨g, 0, none⟩) n n)) w1) : wpList Try.prog ops F (o :: rest) a W := by
 obtain ⟨i0, hi, hzz⟩ := Option.map_eq_some_iff.1 info3; simp only [Prod.mk.injEq] at hzz; obtain ⟨hz0, hz1, hz2⟩ := hzz; have hr := run_make (P := Try.prog) W 22 3 i0 (.int .i64 0) Try.underlying22 hi hz0 .i64 .i64 (n : Int) (n : Int) (by omega) (by omega) (by rw [hz2]; omega) (by omega); simp only [Int.toNat_natCast] at hr; rw [hz1, show n * 1 = n from Nat.mul_one n, show (Value.int .i64 0).cells = #[Value.int .i64 0] from rfl, impl_eachEven_FirstEven_1.zeros] at hr; exact Kd.event_run hgd (by simp [execOp, ho, hx, hy, hr]) (h _ rfl _ (blk_new W _) (below_alloc (Below.refl _ _) _))
set_option maxHeartbeats 8000000 in
set_option maxRecDepth 100000 in
theorem impl_eachEven_FirstEven_1.calls (g1 g2 : Nat) (k : Nat) (A0 : Option Addr) (c0 : Nat) (l0 : List Int) (a1 : Int) (s r : List Int × Bool) (w0 w : World) (hr0 : Kd.C (Kd.int .i64) w0 A0 l0.length l0) (hc0 : l0.length ≤ c0) (hJ : impl_FirstEven_1.J0 w0 g1 g2 w s) (h : impl_eachEven_FirstEven_1.f k l0 a1 s = some r) :
  Calls Try.prog 63 #[.slice A0 l0.length c0, .int .i64 a1, .func (.func 65) #[] #[.pointer (some ⟨g1, 0, none⟩), .pointer (some ⟨g2, 0, none⟩)]] w fun e w' => e = .returned (.tuple #[]) ∧ impl_FirstEven_1.J0 w0 g1 g2 w' r := by
 have HR0 := Aside0.mk hr0; have HC0 := Aside0.mk hc0; have HJ := Aside0.mk hJ; clear hr0 hc0 hJ
 unfold impl_eachEven_FirstEven_1.f at h
 by_cases hn : l0.length ≤ 1000000
 case neg => rw [if_neg hn] at h; cases h
 rw [if_pos hn] at h; have HN := Aside0.mk hn; obtain ⟨⟨b, st2, s2⟩, A1_, H⟩ := Option.bind_eq_some_iff.mp h; have Q1 := Aside0.mk A1_; clear A1_ hn; obtain rfl : s2 = r := Option.some.inj H; clear H h; have HB := Aside0.mk (Below.refl w.heap.size w)
 go_enter Try.func63, Try.ntmps63
 go_wp2_with (first
  | ((with_reducible refine gate_dst (N := 10) rfl ?_); refine impl_eachEven_FirstEven_1.make_event ?hg (N := 10) ?hd (.tmp 9) (.tmp 9) ?ho l0.length ?hx ?hy HN.out ?_; (case hd => rfl); (case hg => rfl); (case ho => rfl); (case hx => rfl); (case hy => rfl); intro ga hg w8 hbox hb; have n0_ := Aside0.mk (below_step (by repeat (first | (with_reducible first | exact HB.out | apply below_alloc | apply pw_below_drewN | apply below_drew1) | exact HB.out)) hb); have BA := Aside0.mk hbox; have GA_ := Aside0.mk ((by rw [hg]; exact (below_size (by repeat (first | (with_reducible first | exact HB.out | apply below_alloc | apply pw_below_drewN | apply below_drew1) | exact HB.out)))) : w.heap.size ≤ ga); have LA_ := Aside0.mk (blk_lt hbox); clear HB; have HB := n0_; clear n0_ hb hbox hg)
  | ((with_reducible refine gate_dst (N := 14) rfl ?_); refine box_event ?hg (N := 14) ?hd (cs := #[.slice A0 l0.length c0, .slice (some ⟨ga, 0, none⟩) l0.length l0.length, .int .i64 a1, .func (.func 65) #[] #[.pointer (some ⟨g1, 0, none⟩), .pointer (some ⟨g2, 0, none⟩)]]) (t := 90) ?hr ?_; (case hd => rfl); (case hg => rfl); (case hr => first | (go_simp; done) | (go_simp; rfl)); intro gs hg w9 hbox hb; have n0_ := Aside0.mk (below_step (by repeat (first | (with_reducible first | exact HB.out | apply below_alloc | apply pw_below_drewN | apply below_drew1) | exact HB.out)) hb); have BS := Aside0.mk hbox; have NSA := Aside0.mk (show gs ≠ ga from by rw [hg]; exact Ne.symm (Nat.ne_of_lt LA_.out)); have GS_ := Aside0.mk ((by rw [hg]; exact (below_size (by repeat (first | (with_reducible first | exact HB.out | apply below_alloc | apply pw_below_drewN | apply below_drew1) | exact HB.out)))) : w.heap.size ≤ gs); have n5_ := Aside0.mk (blk_below (by (with_reducible repeat (first | refine blk_drewN ?_ _ | refine blk_drew ?_ | refine blk_alloc ?_ _)); exact BA.out) hb); clear BA; have BA := n5_; clear n5_; clear HB; have HB := n0_; clear n0_ hb hbox hg; have HS := Aside0.mk (show impl_eachEven_FirstEven_1.S w0 g1 g2 gs ga l0.length A0 c0 l0 a1 w9 (List.replicate l0.length 0) s from ⟨impl_FirstEven_1.J_of HJ.out HB.out GA_.out, BS.out, BA.out, by rw [List.length_replicate], HN.out, NSA.out, by obtain ⟨_, _, _, q_, _⟩ := HJ.out.2.1; have := blk_lt q_; have := GS_.out; omega, by have := blk_lt HJ.out.2.2.1; have := GS_.out; omega⟩))
  | (go_at_call 83; refine (impl_eachEven_FirstEven_1.fr_calls g1 g2 gs ga l0.length A0 c0 l0 a1 w0 HR0.out HC0.out k (List.replicate l0.length 0) 0 0 s b st2 s2 _ (by repeat (first | (with_reducible first | exact HS.out | apply impl_eachEven_FirstEven_1.S_drewN | apply impl_eachEven_FirstEven_1.S_drew) | exact HS.out)) Q1.out).mono ?_; rintro e w19 ⟨rfl, hs⟩; have HS3 := Aside0.mk hs; clear hs))
 first | go_end0 | ((try simp only [Exit.inBlock, Exit.then]); refine bodyPost_ret (results_none rfl _ _ _) rfl ?_)
 exact ⟨by first | rfl | (simp <;> rfl), impl_FirstEven_1.J_to (by first | exact HS3.out.1 | exact (impl_eachEven_FirstEven_1.S_drewN HS3.out _).1)⟩

/-! ### impl_FirstEven: function 30, by hand -/
-- needs 62 87 63
def impl_FirstEven.f (k : Nat) (l0 : List Int) (a1 : Int) : Option (List Int × Bool) :=
 (impl_canSeat.f k l0 a1).bind fun t => if t = true then (impl_eachEven_FirstEven_1.f k l0 a1 (([] : List Int), false)) else some (([] : List Int), false)
theorem impl_FirstEven.mono : ∀ a0 a1 k, LeO (impl_FirstEven.f k a0 a1) (impl_FirstEven.f (k + 1) a0 a1) := by
 intro a0 a1 k
 unfold impl_FirstEven.f
 refine LeO.bind (impl_canSeat.mono _ _ _) (fun _ => ?_); exact LeO.ite (impl_eachEven_FirstEven_1.mono _ _ _ _) (LeO.refl _)
set_option maxHeartbeats 8000000 in
set_option maxRecDepth 100000 in
theorem impl_FirstEven.calls (k : Nat) (A0 : Option Addr) (c0 : Nat) (l0 : List Int) (a1 : Int) (r1 : List Int) (r2 : Bool) (w : World) (hr0 : Kd.C (Kd.int .i64) w A0 l0.length l0) (hc0 : l0.length ≤ c0) (h : impl_FirstEven.f k l0 a1 = some (r1, r2)) :
  Calls Try.prog 30 #[.slice A0 l0.length c0, .int .i64 a1] w fun e w' => ∃ v0_ : Value, e = .returned (.tuple #[v0_, .bool r2]) ∧ Kd.R (Kd.int .i64) 3 w' w.heap.size (fun _ => True) v0_ r1 ∧ Below w.heap.size w w' := by
 have HR0 := Aside0.mk hr0; have HC0 := Aside0.mk hc0; clear hr0 hc0; have HB := Aside0.mk (Below.refl w.heap.size w); obtain ⟨t, A1_, H⟩ := Option.bind_eq_some_iff.mp h; clear h; have Q1 := Aside0.mk A1_; clear A1_
 cases t with
 | false =>
  have H' := Aside0.mk H; clear H
  go_enter Try.func30, Try.ntmps30
  go_wp2_with (first | (go_at_call 62; refine (impl_canSeat.calls k A0 c0 l0 a1 false _ (Kd.C_below HR0.out (by repeat (first | (with_reducible first | exact HB.out | apply below_alloc | apply pw_below_drewN | apply below_drew1) | exact HB.out))) HC0.out Q1.out).mono ?_; rintro e w11 ⟨rfl, ⟨nd, rfl⟩⟩))
  go_ret2
  obtain ⟨rfl, rfl⟩ : ([] : List Int) = r1 ∧ false = r2 := by have := H'.out; simpa using this
  exact ⟨_, by first | rfl | (simp <;> rfl), Kd.R_nil _ _ _ _ _, by repeat (first | (with_reducible first | exact HB.out | apply below_alloc | apply pw_below_drewN | apply below_drew1) | exact HB.out)⟩
 | true =>
  have Q3 := Aside0.mk (show impl_eachEven_FirstEven_1.f k l0 a1 (([] : List Int), false) = some (r1, r2) from H); clear H
  go_enter Try.func30, Try.ntmps30
  go_wp2_with (first | (go_at_call 62; refine (impl_canSeat.calls k A0 c0 l0 a1 true _ (Kd.C_below HR0.out (by repeat (first | (with_reducible first | exact HB.out | apply below_alloc | apply pw_below_drewN | apply below_drew1) | exact HB.out))) HC0.out Q1.out).mono ?_; rintro e w11 ⟨rfl, ⟨nd, rfl⟩⟩) | ((with_reducible refine gate_dst (N := 12) rfl ?_); refine Kd.R_lit (Kd.int .i64) _ 3 ?hg (N := 12) ?hd (xs := ([] : List Int)) (inner := []) (ok := fun _ => True) (okp := fun _ => True) ?hr ?hp (fun _ hk => hk) trivial (Below.refl _ _) (Nat.le_refl _) (by simp) ?_; (case hd => rfl); (case hg => rfl); (case hr => first | (go_simp; done) | (go_simp; rfl)); (case hp => exact (Reps.none _ _)); intro v12 w12 ho6 hb hg_ hnew_; clear hg_ hnew_; obtain ⟨A12, n12, c12, rfl⟩ := impl_FirstEven_1.slice_of ho6; have HO12 := Aside0.mk (Kd.R_mono (ok' := fun k => k < w12.heap.size) (Kd.R_bound (Kd.R_lower ho6 (below_size (by repeat (first | (with_reducible first | exact HB.out | apply below_alloc | apply pw_below_drewN | apply below_drew1) | exact HB.out))))) (fun k hk => hk.2.2.1)); have n1_ := Aside0.mk (below_step (by repeat (first | (with_reducible first | exact HB.out | apply below_alloc | apply pw_below_drewN | apply below_drew1) | exact HB.out)) hb); clear HB; have HB := n1_; clear n1_; clear hb ho6) | ((with_reducible refine gate_dst (N := 6) rfl ?_); refine box_event ?hg (N := 6) ?hd (cs := #[.slice none 0 0]) (t := 22) ?hr ?_; (case hd => rfl); (case hg => rfl); (case hr => first | (go_simp; done) | (go_simp; rfl)); intro g6_ hg w6 hbox hb; have n0_ := Aside0.mk (below_step (by repeat (first | (with_reducible first | exact HB.out | apply below_alloc | apply pw_below_drewN | apply below_drew1) | exact HB.out)) hb); have B6 := Aside0.mk hbox; have cz6 : w6.cell? ⟨g6_, 0, none⟩ = some (.slice none 0 0) := (blk_cell hbox 0).trans rfl; have fz6 := blk_frozen hbox 0; have GE6 := Aside0.mk ((by rw [hg]; exact (below_size (by repeat (first | (with_reducible first | exact HB.out | apply below_alloc | apply pw_below_drewN | apply below_drew1) | exact HB.out)))) : w.heap.size ≤ g6_); have LT6 := Aside0.mk (blk_lt hbox); have GA6 := Aside0.mk (show w12.heap.size ≤ g6_ from by rw [hg]; exact Nat.le_refl _); have n5_ := Aside0.mk (Kd.R_below (by (with_reducible repeat (first | apply Kd.R_alloc | apply Kd.R_drewN | apply Kd.R_drew)); exact HO12.out) hb); clear HO12; have HO12 := n5_; clear n5_; clear HB; have HB := n0_; clear n0_ hb hbox hg) | ((with_reducible refine gate_dst (N := 7) rfl ?_); refine box_event ?hg (N := 7) ?hd (cs := #[.bool false]) (t := 4) ?hr ?_; (case hd => rfl); (case hg => rfl); (case hr => first | (go_simp; done) | (go_simp; rfl)); intro g7_ hg w7 hbox hb; have n0_ := Aside0.mk (below_step (by repeat (first | (with_reducible first | exact HB.out | apply below_alloc | apply pw_below_drewN | apply below_drew1) | exact HB.out)) hb); have B7 := Aside0.mk hbox; have cz7 : w7.cell? ⟨g7_, 0, none⟩ = some (.bool false) := (blk_cell hbox 0).trans rfl; have fz7 := blk_frozen hbox 0; have GE7 := Aside0.mk ((by rw [hg]; exact (below_size (by repeat (first | (with_reducible first | exact HB.out | apply below_alloc | apply pw_below_drewN | apply below_drew1) | exact HB.out)))) : w.heap.size ≤ g7_); have GA7 := Aside0.mk (show w12.heap.size ≤ g7_ from by rw [hg]; exact Nat.le_trans GA6.out (Nat.le_of_lt LT6.out)); have NE67 := Aside0.mk (show g6_ ≠ g7_ from by rw [hg]; exact Nat.ne_of_lt (blk_lt (by (with_reducible repeat (first | refine blk_drewN ?_ _ | refine blk_drew ?_ | refine blk_alloc ?_ _)); exact B6.out))); have n5_ := Aside0.mk (Kd.R_below (by (with_reducible repeat (first | apply Kd.R_alloc | apply Kd.R_drewN | apply Kd.R_drew)); exact HO12.out) hb); clear HO12; have HO12 := n5_; clear n5_; have n5_ := Aside0.mk (blk_below (by (with_reducible repeat (first | refine blk_drewN ?_ _ | refine blk_drew ?_ | refine blk_alloc ?_ _)); exact B6.out) hb); clear B6 cz6 fz6; have B6 := n5_; clear n5_; have cz6 : w7.cell? ⟨g6_, 0, none⟩ = some (.slice none 0 0) := (blk_cell B6.out 0).trans rfl; have fz6 := blk_frozen B6.out 0; have NC6 : g6_ ≠ g7_ := NE67.out; have NC7 : g7_ ≠ g6_ := Ne.symm NE67.out; clear HB; have HB := n0_; clear n0_ hb hbox hg) | (go_at_call 63; refine (impl_eachEven_FirstEven_1.calls g6_ g7_ k A0 c0 l0 a1 (([] : List Int), false) (r1, r2) w _ HR0.out HC0.out (by (repeat (first | apply impl_FirstEven_1.J0_drewN | apply impl_FirstEven_1.J0_drew)); refine impl_FirstEven_1.start (by repeat (first | (with_reducible first | exact HB.out | apply below_alloc | apply pw_below_drewN | apply below_drew1) | exact HB.out)) (by (with_reducible repeat (first | refine blk_drewN ?_ _ | refine blk_drew ?_ | refine blk_alloc ?_ _)); exact B6.out) (by (with_reducible repeat (first | refine blk_drewN ?_ _ | refine blk_drew ?_ | refine blk_alloc ?_ _)); exact B7.out) NE67.out GE6.out GE7.out ?_; exact Kd.R_mono (by (with_reducible repeat (first | apply Kd.R_alloc | apply Kd.R_drewN | apply Kd.R_drew)); exact HO12.out) (fun k (hk : k < w12.heap.size) => ⟨fun e => by have := GA6.out; omega, fun e => by have := GA7.out; omega⟩)) Q3.out).mono ?_; rintro e w19 ⟨rfl, hj⟩; obtain ⟨hj0, ⟨A20, n20, c20, hj2, hj3⟩, hj4, _⟩ := hj; have cj1 : w19.cell? ⟨g7_, 0, none⟩ = some (.bool r2) := (blk_cell hj4 0).trans rfl; have cj2 : w19.cell? ⟨g6_, 0, none⟩ = some (.slice A20 n20 c20) := (blk_cell hj2 0).trans rfl; have HRR := Aside0.mk (Kd.R_mono (ok' := fun _ => True) hj3 (fun _ _ => trivial)); clear hj4 hj2 hj3; clear HB; have HB := Aside0.mk hj0; clear hj0))
  repeat (go_quiet (fail); try go_wp2)
  go_ret2
  exact ⟨_, by first | rfl | (simp <;> rfl), by (with_reducible repeat (first | apply Kd.R_alloc | apply Kd.R_drewN | apply Kd.R_drew)); exact HRR.out, by repeat (first | (with_reducible first | exact HB.out | apply below_alloc | apply pw_below_drewN | apply below_drew1) | exact HB.out)⟩

end Go.Proofs.Ytkedfmmmjopofaa.XSe
