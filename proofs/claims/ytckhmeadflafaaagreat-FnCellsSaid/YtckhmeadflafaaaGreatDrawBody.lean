/- The draws of bodies: each comes to an answer, of at most 13 cells. No conditions beyond those of the lemmas' own hypotheses. -/
import Derived.Test.YtckhmeadflafaaaGreatDraw
import Derived.Test.YtckhmeadflafaaaGreatPut
import Derived.Test.YtckhmeadflafaaaGreatEdge
import Derived.Test.YtckhmeadflafaaaGreatLoose
import Derived.Test.YtckhmeadflafaaaGreatReach
import Derived.Test.YtckhmeadflafaaaGreatXFcx2
namespace Go.Proofs.YtckhmeadflafaaaGreat.PureDrawBody
open Go.RowKit YtckhmeadflafaaaGreat.XFc YtckhmeadflafaaaGreat.Plain YtckhmeadflafaaaGreat.PureCells YtckhmeadflafaaaGreat.PureBody YtckhmeadflafaaaGreat.PurePut YtckhmeadflafaaaGreat.PureHas YtckhmeadflafaaaGreat.PureEdge YtckhmeadflafaaaGreat.PureLoose YtckhmeadflafaaaGreat.PureReach YtckhmeadflafaaaGreat.PureDraw YtckhmeadflafaaaGreatW.PrintWords YtckhmeadflafaaaGreatW.PrintLast YtckhmeadflafaaaGreatW.PrintMore
set_option linter.unusedVariables false
/-- What the growing cells keep. -/
structure Grow (l : List Cl) : Prop where
 n0 : 0 < l.length
 n1 : l.length ≤ 12
 each : ∀ c ∈ l, (0 ≤ c.f0 ∧ c.f0 < (l.length : Int)) ∧ 0 ≤ c.f1 ∧ c.f1 < (l.length : Int)
 low : ∃ c ∈ l, c.f0 = 0
 ground : ∃ c ∈ l, c.f1 = 0
theorem Grow.small {l : List Cl} (g : Grow l) : ∀ c ∈ l, Small c := by
 intro c hc
 obtain ⟨⟨a, b⟩, d, e⟩ := g.each c hc
 have := g.n1
 exact ⟨⟨by omega, by omega⟩, by omega, by omega⟩
theorem Grow.edge {l : List Cl} (g : Grow l) : 0 < (edge l).length := by
 obtain ⟨c, hc, h0⟩ := g.low
 obtain ⟨⟨a, b⟩, d, e⟩ := g.each c hc
 have n1 := g.n1
 refine List.length_pos_of_mem (a := (⟨-1, c.f1⟩ : Cl)) ((edge_mem l _).2 ⟨⟨by show (-1 : Int) ≤ -1; omega, by show (-1 : Int) ≤ 12; omega⟩, ⟨by show -1 ≤ c.f1; omega, by show c.f1 ≤ 12; omega⟩, ⟨c, hc, ?_⟩, fun hm => ?_⟩)
 ·unfold nr ab
  rw [decide_eq_true_eq]
  show (if -(c.f0 - -1) > c.f0 - -1 then -(c.f0 - -1) else c.f0 - -1) + (if -(c.f1 - c.f1) > c.f1 - c.f1 then -(c.f1 - c.f1) else c.f1 - c.f1) = 1
  split <;> split <;> omega
 ·have := (g.each _ hm).1.1
  have h : (0 : Int) ≤ -1 := this
  omega
theorem Grow.step {l : List Cl} (g : Grow l) (hl : l.length < 12) (z : Cl) (hz : z ∈ PureEdge.edge l) (h0 : 0 < (ins z l).length) : Grow (pd (ins z l) h0) ∧ (pd (ins z l) h0).length = l.length + 1 := by
 have hlen : (pd (ins z l) h0).length = l.length + 1 := by rw [pd_len, ins_len]
 obtain ⟨⟨z1, z2⟩, ⟨z3, z4⟩, ⟨c, hc, hnr⟩, hnot⟩ := (edge_mem l z).1 hz
 have k1 := nr_f0 hnr
 have k2 := nr_f0 (show nr z c = true by rw [nr_symm]; exact hnr)
 have gc := g.each c hc
 have hperm := ins_perm z l
 have hmem : ∀ w, w ∈ ins z l ↔ w = z ∨ w ∈ l := fun w => by rw [hperm.mem_iff, List.mem_cons]
 obtain ⟨xa, hxa, hxae⟩ := lw_at h0
 obtain ⟨xb, hxb, hxbe⟩ := dn_at h0
 have hA := lw_le (ins z l) (ins z l)[0].f0
 have hB := dn_le (ins z l) (ins z l)[0].f1
 obtain ⟨s1, s2⟩ := sortC_spec ((ins z l).map (sh (lw (ins z l)[0].f0 (ins z l)) (dn (ins z l)[0].f1 (ins z l))))
 have hp : (pd (ins z l) h0).Perm _ := s2
 obtain ⟨c0, hc0, hc00⟩ := g.low
 obtain ⟨c1, hc1, hc10⟩ := g.ground
 have hA0 := hA.2 c0 ((hmem c0).2 (Or.inr hc0))
 have hB0 := hB.2 c1 ((hmem c1).2 (Or.inr hc1))
 generalize lw (ins z l)[0].f0 (ins z l) = A at *
 generalize dn (ins z l)[0].f1 (ins z l) = B at *
 refine ⟨⟨by omega, by omega, ?_, ?_, ?_⟩, hlen⟩
 ·intro w hw
  obtain ⟨y, hy, rfl⟩ := List.mem_map.1 (hp.mem_iff.1 hw)
  rw [hlen]
  have hAy := hA.2 y hy
  have hBy := hB.2 y hy
  show (0 ≤ y.f0 - A ∧ y.f0 - A < ((l.length + 1 : Nat) : Int)) ∧ 0 ≤ y.f1 - B ∧ y.f1 - B < ((l.length + 1 : Nat) : Int)
  refine ⟨⟨by omega, ?_⟩, by omega, ?_⟩
  ·rcases (hmem xa).1 hxa with rfl | hxl
   ·rcases (hmem y).1 hy with rfl | hyl
    ·omega
    ·have := g.each y hyl; omega
   ·have := g.each xa hxl
    rcases (hmem y).1 hy with rfl | hyl
    ·omega
    ·have := g.each y hyl; omega
  ·rcases (hmem xb).1 hxb with rfl | hxl
   ·rcases (hmem y).1 hy with rfl | hyl
    ·omega
    ·have := g.each y hyl; omega
   ·have := g.each xb hxl
    rcases (hmem y).1 hy with rfl | hyl
    ·omega
    ·have := g.each y hyl; omega
 ·exact ⟨sh A B xa, hp.mem_iff.2 (List.mem_map_of_mem hxa), by show xa.f0 - A = 0; omega⟩
 ·exact ⟨sh A B xb, hp.mem_iff.2 (List.mem_map_of_mem hxb), by show xb.f1 - B = 0; omega⟩
theorem lift_ev (n : Nat) (hn : n ≤ 100) (L : List Int) (a s : Int) : ∀ i, i ≤ n → ∀ l : List Cl, l.length = n → ∃ o : List Cl, Ev (fun k => spec_l1Cur_body.l1 k l (i : Int) L a s) (o, a, s) ∧ o.length = n := by
 refine downTo n ?_ ?_
 ·intro l hl
  have nlt : ¬ (n : Int) < (l.length : Int) := by omega
  exact ⟨l, Ev.step (fun k => by simp only [spec_l1Cur_body.l1]; exact rfl) (ifn nlt (done rfl)), hl⟩
 ·intro i hi ih l hl
  have hil : (i : Int) < (l.length : Int) := by omega
  have hi0 : 0 ≤ (i : Int) := by omega
  obtain ⟨o, e1, e2⟩ := ih (l.set (i : Int).toNat (⟨(rd_T37 l (i : Int)).f0, wrap64 (((rd_T37 l (i : Int)).f1) + 1)⟩ : Cl)) (by rw [List.length_set]; exact hl)
  refine ⟨o, Ev.step (fun k => by simp only [spec_l1Cur_body.l1]; exact rfl) (ifp hil (ifp hi0 ?_)), e2⟩
  rw [wrapS hi (by omega)]
  exact e1
theorem grow_ev {L : List Int} (hL : Bytes L) (want : Int) (hw : want ≤ 12) : ∀ n : Nat, ∀ l : List Cl, Grow l → l.length + n = 13 → ∀ a s : Int, 0 ≤ a → a + 2 * (n : Int) + 20 ≤ 4611686018427380000 → ∃ o a' s', Ev (fun k => spec_l1Cur_body.l0 k l want L a s) (o, a', s') ∧ o.length ≤ 13 ∧ a ≤ a' ∧ a' ≤ a + 2 * (n : Int) + 20 := by
 intro n
 induction n with
 | zero => intro l g h; have := g.n1; omega
 | succ n ih =>
  intro l g h a s ha hb
  have n0 := g.n0
  have n1 := g.n1
  by_cases c : (l.length : Int) < want
  ·have he := edge_ev l (by omega) g.small
   have hel := edge_len l
   have hep := g.edge
   obtain ⟨x, a1, s1, p1, ⟨x0, x1⟩, p3, p4⟩ := pick_ev hL a s ha (by omega) ((edge l).length : Int) (by omega)
   have x2 := x1 (by omega)
   obtain ⟨m, rfl⟩ := Int.eq_ofNat_of_zero_le x0
   have hm : m < (edge l).length := by omega
   have hput := l8Put_ev l (by omega) (edge l)[m]
   have h0 : 0 < (ins (edge l)[m] l).length := by rw [ins_len]; omega
   obtain ⟨g2, hl2⟩ := g.step (by omega) _ (List.getElem_mem hm) h0
   have hzs : Small (edge l)[m] := by
    obtain ⟨⟨z1, z2⟩, ⟨z3, z4⟩, _⟩ := (edge_mem l _).1 (List.getElem_mem hm)
    exact ⟨⟨by omega, by omega⟩, by omega, by omega⟩
   have hd := l8Down_ev (ins (edge l)[m] l) h0 (by rw [ins_len]; omega) (fun w hw => by
    rcases List.mem_cons.1 ((ins_perm _ l).mem_iff.1 hw) with rfl | hw
    ·exact hzs
    ·exact g.small w hw)
   obtain ⟨o, a', s', e1, e2, e3, e4⟩ := ih _ g2 (by omega) a1 s1 (by omega) (by omega)
   refine ⟨o, a', s', Ev.step (fun k => by simp only [spec_l1Cur_body.l0]; exact rfl) (ifp c (Ev.bind he (somb p1 (ifp x0 (ifp x2 ?_))))), e2, by omega, by omega⟩
   rw [rdC hm]
   exact Ev.bind hput (Ev.bind hd e1)
  ·obtain ⟨x, a1, s1, p1, ⟨x0, x1⟩, p3, p4⟩ := pick_ev hL a s ha (by omega) 50 (by omega)
   have fin : ∀ r : List Cl × Int × Int, r.1.length ≤ 13 → a ≤ r.2.1 → r.2.1 ≤ a + 20 → Ev (fun k => spec_l1Cur_body.l0 k l want L a s) r → ∃ o a' s', Ev (fun k => spec_l1Cur_body.l0 k l want L a s) (o, a', s') ∧ o.length ≤ 13 ∧ a ≤ a' ∧ a' ≤ a + 2 * ((n + 1 : Nat) : Int) + 20 := fun r h1 h2 h3 h4 => ⟨r.1, r.2.1, r.2.2, h4, h1, h2, by omega⟩
   have w1 : wrap64 ((l.length : Int) - 1) = ((l.length - 1 : Nat) : Int) := by rw [w64 (by omega) (by omega)]; omega
   have hal : l.length < 8796093022208 := by omega
   have hlp : (0 : Int) < (l.length : Int) := by omega
   by_cases x3 : x = 0
   ·obtain ⟨y, a2, s2, q1, ⟨y0, y1⟩, q3, q4⟩ := pick_ev hL a1 s1 (by omega) (by omega) (l.length : Int) (by omega)
    obtain ⟨v, a3, s3, t1, _, t3, t4⟩ := among_ev hL a2 s2 (by omega) (by omega) [(-1), 12, 4611686018427387904] (by simp) (by simp)
    have y2 := y1 (by omega)
    refine fin (l.set y.toNat ⟨v, 0⟩, a3, s3) (by rw [List.length_set]; omega) (by show a ≤ a3; omega) (by show a3 ≤ a + 20; omega) ?_
    exact Ev.step (fun k => by simp only [spec_l1Cur_body.l0]; exact rfl) (ifn c (somb p1 (ifp x3 (somb q1 (somb t1 (ifp y0 (ifp y2 (done rfl))))))))
   ·by_cases x4 : x = 1
    ·have hlast : ((l.length - 1 : Nat) : Int) < (l.length : Int) := by omega
     have hlast0 : (0 : Int) ≤ ((l.length - 1 : Nat) : Int) := by omega
     refine fin (l ++ [(⟨(rd_T37 l (wrap64 ((l.length : Int) - 1))).f0, wrap64 (((rd_T37 l (wrap64 ((l.length : Int) - 1))).f1) + 2)⟩ : Cl)], a1, s1) (by rw [List.length_append, List.length_singleton]; omega) (by show a ≤ a1; omega) (by show a1 ≤ a + 20; omega) ?_
     refine Ev.step (fun k => by simp only [spec_l1Cur_body.l0]; exact rfl) (ifn c (somb p1 (ifn x3 (ifp x4 ?_))))
     exact ifp (by rw [w1]; exact hlast0) (ifp (by rw [w1]; exact hlast) (ifp hal (done rfl)))
    ·by_cases x5 : x = 2
     ·refine fin (l ++ [(⟨(rd_T37 l 0).f0, (rd_T37 l 0).f1⟩ : Cl)], a1, s1) (by rw [List.length_append, List.length_singleton]; omega) (by show a ≤ a1; omega) (by show a1 ≤ a + 20; omega) ?_
      exact Ev.step (fun k => by simp only [spec_l1Cur_body.l0]; exact rfl) (ifn c (somb p1 (ifn x3 (ifn x4 (ifp x5 (ifp hlp (ifp hal (done rfl))))))))
     ·by_cases x6 : x = 3
      ·refine fin ([], a1, s1) (by simp) (by show a ≤ a1; omega) (by show a1 ≤ a + 20; omega) ?_
       exact Ev.step (fun k => by simp only [spec_l1Cur_body.l0]; exact rfl) (ifn c (somb p1 (ifn x3 (ifn x4 (ifn x5 (ifp x6 (done rfl)))))))
      ·by_cases x7 : x = 4
       ·obtain ⟨o, e1, e2⟩ := lift_ev l.length (by omega) L a1 s1 0 (Nat.zero_le _) l rfl
        refine fin (o, a1, s1) (by show o.length ≤ 13; omega) (by show a ≤ a1; omega) (by show a1 ≤ a + 20; omega) ?_
        exact Ev.step (fun k => by simp only [spec_l1Cur_body.l0]; exact rfl) (ifn c (somb p1 (ifn x3 (ifn x4 (ifn x5 (ifn x6 (ifp x7 e1)))))))
       ·refine fin (l, a1, s1) (by show l.length ≤ 13; omega) (by show a ≤ a1; omega) (by show a1 ≤ a + 20; omega) ?_
        exact Ev.step (fun k => by simp only [spec_l1Cur_body.l0]; exact rfl) (ifn c (somb p1 (ifn x3 (ifn x4 (ifn x5 (ifn x6 (ifn x7 (done rfl))))))))
theorem body_ev {L : List Int} (hL : Bytes L) (a s : Int) (ha : 0 ≤ a) (hb : a ≤ 1000000) (most : Int) : ∃ o a' s', Ev (fun k => spec_l1Cur_body.f k L a s most) (o, a', s') ∧ o.length ≤ 13 ∧ a ≤ a' ∧ a' ≤ a + 50 := by
 obtain ⟨v, a1, s1, t1, t2, t3, t4⟩ := among_ev hL a s ha (by omega) [4, 5, 3, 2, 1, 7, 9, 12] (by simp) (by simp)
 have hv : v ≤ 12 := by
  simp only [List.mem_cons, List.not_mem_nil, or_false] at t2
  omega
 have hm : mn v most ≤ 12 := by unfold mn; split <;> omega
 have g0 : Grow [(⟨0, 0⟩ : Cl)] := by
  refine ⟨by simp, by simp, ?_, ⟨⟨0, 0⟩, by simp, rfl⟩, ⟨⟨0, 0⟩, by simp, rfl⟩⟩
  intro c hc
  rw [List.mem_singleton] at hc
  subst hc
  exact ⟨⟨Int.le_refl _, by simp⟩, Int.le_refl _, by simp⟩
 obtain ⟨o, a', s', e1, e2, e3, e4⟩ := grow_ev hL (mn v most) hm 12 [⟨0, 0⟩] g0 (by simp) a1 s1 (by omega) (by omega)
 refine ⟨o, a', s', ?_, e2, by omega, by omega⟩
 unfold spec_l1Cur_body.f
 exact somb t1 (somb (least_eq _ _) e1)
theorem isBody_draw {L : List Int} (hL : Bytes L) : ∃ o, Ev (fun k => spec_DrawIsBody.f k L) o ∧ o.length ≤ 13 := by
 obtain ⟨o, a', s', e1, e2, _⟩ := body_ev hL 0 0 (by omega) (by omega) 12
 unfold spec_DrawIsBody.f
 exact ⟨o, Ev.bind e1 (done rfl), e2⟩
end Go.Proofs.YtckhmeadflafaaaGreat.PureDrawBody
