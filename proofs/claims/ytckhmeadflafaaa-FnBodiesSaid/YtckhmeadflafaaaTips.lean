/- To which side cells tip, told by the cells alone: a mirrored body tips to the other side. No conditions beyond those of the lemmas' own hypotheses. -/
import Derived.Test.YtckhmeadflafaaaShape
import Derived.Test.YtckhmeadflafaaaGround
import Derived.Test.YtckhmeadflafaaaLaid
import Derived.Test.YtckhmeadflafaaaSide
namespace Go.Proofs.Ytckhmeadflafaaa.PureTips
open Go.RowKit Go.Proofs.Ytckhmeadflafaaa.XFb Go.Proofs.Ytckhmeadflafaaa.Plain Go.Proofs.Ytckhmeadflafaaa.PureCells Go.Proofs.Ytckhmeadflafaaa.PureBody Go.Proofs.Ytckhmeadflafaaa.PurePut Go.Proofs.Ytckhmeadflafaaa.PureGround Go.Proofs.Ytckhmeadflafaaa.PureSide Go.Proofs.Ytckhmeadflafaaa.PureShape Go.Proofs.YtckhmeadflafaaaW.PrintWords Go.Proofs.YtckhmeadflafaaaW.PrintLast Go.Proofs.YtckhmeadflafaaaW.PrintMore
set_option linter.unusedVariables false
/-- Where the ground begins and ends. -/
structure Gr (l : List Cl) (a b : Int) : Prop where
  e0 : ∃ x ∈ l, x.f1 = 0 ∧ x.f0 = a
  h0 : ∀ x ∈ l, x.f1 = 0 → a ≤ x.f0
  e1 : ∃ x ∈ l, x.f1 = 0 ∧ x.f0 + 1 = b
  h1 : ∀ x ∈ l, x.f1 = 0 → x.f0 + 1 ≤ b
theorem Gr.eq {l m : List Cl} (hm : ∀ x, x ∈ l ↔ x ∈ m) {a b c d : Int} (g : Gr l a b) (k : Gr m c d) : a = c ∧ b = d := by
  obtain ⟨⟨x, x1, x2, x3⟩, gh0, ⟨y, y1, y2, y3⟩, gh1⟩ := g
  obtain ⟨⟨u, u1, u2, u3⟩, kh0, ⟨w, w1, w2, w3⟩, kh1⟩ := k
  have h1 := gh0 u ((hm u).2 u1) u2
  have h2 := gh1 w ((hm w).2 w1) w2
  have h3 := kh0 x ((hm x).1 x1) x2
  have h4 := kh1 y ((hm y).1 y1) y2
  omega
def Gs (l : List Cl) (i : Nat) (a b : Int) : Prop := (a = 12 ∧ b = 0 ∧ ∀ j, (h : j < l.length) → j < i → ¬ l[j].f1 = 0) ∨ ((∃ x ∈ l, x.f1 = 0 ∧ x.f0 = a) ∧ (∃ x ∈ l, x.f1 = 0 ∧ x.f0 + 1 = b) ∧ (∀ j, (h : j < l.length) → j < i → l[j].f1 = 0 → a ≤ l[j].f0 ∧ l[j].f0 + 1 ≤ b))
theorem gr_l0 (l : List Cl) (v : LaidV l) : ∀ i, i ≤ l.length → ∀ a b : Int, Gs l i a b → ∃ a' b', Ev (fun k => impl_groundOf.l0 k a b l (l.length : Int) (i : Int)) (a', b') ∧ Gr l a' b' := by
  have n1 := v.n1
  refine downTo l.length ?_ ?_
  · intro a b h
    refine ⟨a, b, Ev.step (fun k => by simp only [impl_groundOf.l0]; exact rfl) (ifn (by omega) (done rfl)), ?_⟩
    rcases h with ⟨_, _, h⟩ | ⟨h1, h2, h3⟩
    · obtain ⟨x, hx, hx0⟩ := v.ground
      obtain ⟨j, hj, rfl⟩ := List.getElem_of_mem hx
      exact absurd hx0 (h j hj hj)
    · refine ⟨h1, fun x hx h0 => ?_, h2, fun x hx h0 => ?_⟩
      · obtain ⟨j, hj, rfl⟩ := List.getElem_of_mem hx
        exact (h3 j hj hj h0).1
      · obtain ⟨j, hj, rfl⟩ := List.getElem_of_mem hx
        exact (h3 j hj hj h0).2
  · intro i hi ih a b h
    have hi0 : 0 ≤ (i : Int) := by omega
    have hil : (i : Int) < (l.length : Int) := by omega
    have hw : wrap64 ((i : Int) + 1) = ((i + 1 : Nat) : Int) := wrapS hi (by omega)
    have hm := List.getElem_mem hi
    obtain ⟨⟨x0, x1⟩, y0, y1⟩ := v.each l[i] hm
    have hx1 : wrap64 (l[i].f0 + 1) = l[i].f0 + 1 := w64 (by omega) (by omega)
    by_cases hy : l[i].f1 = 0
    · obtain ⟨a', b', e1, e2⟩ := ih (mn a l[i].f0) (mx b (l[i].f0 + 1)) (by
        right
        rcases h with ⟨ha, hb, h⟩ | ⟨h1, h2, h3⟩
        · subst ha; subst hb
          have ea : mn 12 l[i].f0 = l[i].f0 := by unfold mn; split <;> omega
          have eb : mx 0 (l[i].f0 + 1) = l[i].f0 + 1 := by unfold mx; split <;> omega
          rw [ea, eb]
          refine ⟨⟨_, hm, hy, rfl⟩, ⟨_, hm, hy, rfl⟩, fun j hj hji hj0 => ?_⟩
          by_cases e : j = i
          · subst e; omega
          · exact absurd hj0 (h j hj (by omega))
        · have ma : mn a l[i].f0 ≤ a ∧ mn a l[i].f0 ≤ l[i].f0 ∧ (mn a l[i].f0 = a ∨ mn a l[i].f0 = l[i].f0) := by unfold mn; split <;> omega
          have mb : b ≤ mx b (l[i].f0 + 1) ∧ l[i].f0 + 1 ≤ mx b (l[i].f0 + 1) ∧ (mx b (l[i].f0 + 1) = b ∨ mx b (l[i].f0 + 1) = l[i].f0 + 1) := by unfold mx; split <;> omega
          refine ⟨?_, ?_, fun j hj hji hj0 => ?_⟩
          · rcases ma.2.2 with e | e
            · rw [e]; exact h1
            · rw [e]; exact ⟨_, hm, hy, rfl⟩
          · rcases mb.2.2 with e | e
            · rw [e]; exact h2
            · rw [e]; exact ⟨_, hm, hy, rfl⟩
          · by_cases e : j = i
            · subst e; omega
            · have := h3 j hj (by omega) hj0
              omega)
      refine ⟨a', b', Ev.step (fun k => by simp only [impl_groundOf.l0]; exact rfl) (ifp hil (ifp hi0 (ifp hil ?_))), e2⟩
      rw [rdC hi, hw, hx1]
      exact ifp hy e1
    · obtain ⟨a', b', e1, e2⟩ := ih a b (by
        rcases h with ⟨ha, hb, h⟩ | ⟨h1, h2, h3⟩
        · refine Or.inl ⟨ha, hb, fun j hj hji => ?_⟩
          by_cases e : j = i
          · subst e; exact hy
          · exact h j hj (by omega)
        · refine Or.inr ⟨h1, h2, fun j hj hji hj0 => ?_⟩
          by_cases e : j = i
          · subst e; exact absurd hj0 hy
          · exact h3 j hj (by omega) hj0)
      refine ⟨a', b', Ev.step (fun k => by simp only [impl_groundOf.l0]; exact rfl) (ifp hil (ifp hi0 (ifp hil ?_))), e2⟩
      rw [rdC hi, hw]
      exact ifn hy e1
theorem gr_ev (l : List Cl) (v : LaidV l) : ∃ a b, Ev (fun k => impl_groundOf.f k l) (a, b) ∧ Gr l a b := gr_l0 l v 0 (Nat.zero_le _) 12 0 (Or.inl ⟨rfl, rfl, fun j _ h => absurd h (by omega)⟩)
/-! ### the middles -/
def ms : List Cl → Int
  | [] => 0
  | x :: l => 2 * x.f0 + 1 + ms l
theorem ms_perm {l m : List Cl} (h : l.Perm m) : ms l = ms m := by
  induction h with
  | nil => rfl
  | cons x _ ih => show 2 * x.f0 + 1 + ms _ = 2 * x.f0 + 1 + ms _; rw [ih]
  | swap x y l => show 2 * y.f0 + 1 + (2 * x.f0 + 1 + ms l) = 2 * x.f0 + 1 + (2 * y.f0 + 1 + ms l); omega
  | trans _ _ h1 h2 => exact h1.trans h2
theorem ms_range {l : List Cl} (h : ∀ x ∈ l, InR x) : 0 ≤ ms l ∧ ms l ≤ 25 * (l.length : Int) := by
  induction l with
  | nil => exact ⟨Int.le_refl _, by show (0 : Int) ≤ 25 * ((0 : Nat) : Int); omega⟩
  | cons x l ih =>
    have h1 := ih (fun y hy => h y (List.mem_cons_of_mem _ hy))
    obtain ⟨⟨a, b⟩, _⟩ := h x List.mem_cons_self
    show 0 ≤ 2 * x.f0 + 1 + ms l ∧ 2 * x.f0 + 1 + ms l ≤ 25 * ((l.length + 1 : Nat) : Int)
    omega
theorem ms_l0 (l : List Cl) (hn : l.length ≤ 12) (hr : ∀ x ∈ l, InR x) : ∀ i, i ≤ l.length → ∀ s : Int, 0 ≤ s → s ≤ 25 * (i : Int) → Ev (fun k => impl_middles_0.l0 k s l (l.length : Int) (i : Int)) (s + ms (l.drop i)) := by
  refine downTo l.length ?_ ?_
  · intro s _ _
    refine Ev.step (fun k => by simp only [impl_middles_0.l0]; exact rfl) (ifn (by omega) (done ?_))
    rw [List.drop_length]
    exact (Int.add_zero s).symm
  · intro i hi ih s h0 h1
    obtain ⟨⟨x0, x1⟩, y0, y1⟩ := hr l[i] (List.getElem_mem hi)
    have e := ih (s + (2 * l[i].f0 + 1)) (by omega) (by omega)
    refine Ev.step (fun k => by simp only [impl_middles_0.l0]; exact rfl) (ifp (by omega) (ifp (by omega) (ifp (by omega) ?_)))
    rw [rdC hi, wrapS hi (by omega), w64 (x := 2 * l[i].f0) (by omega) (by omega), w64 (x := 2 * l[i].f0 + 1) (by omega) (by omega), w64 (by omega) (by omega)]
    have e2 : s + ms (l.drop i) = s + (2 * l[i].f0 + 1) + ms (l.drop (i + 1)) := by
      rw [drop_cons hi]
      show s + (2 * l[i].f0 + 1 + ms (l.drop (i + 1))) = _
      omega
    rw [e2]; exact e
theorem ms_ev (l : List Cl) (hn : l.length ≤ 12) (hr : ∀ x ∈ l, InR x) : Ev (fun k => impl_middles_0.f k l) (ms l) := by
  have := ms_l0 l hn hr 0 (Nat.zero_le _) 0 (by omega) (by omega)
  rw [List.drop_zero, Int.zero_add] at this
  exact this
/-- The side, told by the ground and the middles. -/
def sd (l : List Cl) (a b : Int) : Int := if ms l < a * (2 * (l.length : Int)) then -1 else if ms l > b * (2 * (l.length : Int)) then 1 else 0
theorem sd_ev (l : List Cl) (v : LaidV l) : ∃ a b, Ev (fun k => impl_bodySide.f k l) (sd l a b) ∧ Gr l a b ∧ Ev (fun k => impl_groundOf.f k l) (a, b) := by
  have n0 := v.n0
  have n1 := v.n1
  obtain ⟨a, b, e1, g⟩ := gr_ev l v
  have e2 := ms_ev l v.n1 v.each
  refine ⟨a, b, ?_, g, e1⟩
  obtain ⟨x, hx, _, hxa⟩ := g.e0
  obtain ⟨y, hy, _, hyb⟩ := g.e1
  obtain ⟨⟨x0, x1⟩, _⟩ := v.each x hx
  obtain ⟨⟨y0, y1⟩, _⟩ := v.each y hy
  have hwn : wrap64 (2 * (l.length : Int)) = 2 * (l.length : Int) := w64 (by omega) (by omega)
  have bd : ∀ u : Int, 0 ≤ u → u ≤ 13 → wrap64 (u * (2 * (l.length : Int))) = u * (2 * (l.length : Int)) := by
    intro u h0 h1
    have h2 : 0 ≤ u * (2 * (l.length : Int)) := Int.mul_nonneg h0 (by omega)
    have h3 : u * (2 * (l.length : Int)) ≤ 13 * 24 := Int.mul_le_mul h1 (by omega) (by omega) (by omega)
    exact w64 (by omega) (by omega)
  unfold impl_bodySide.f sd
  rw [hwn]
  refine Ev.bind e1 (Ev.bind e2 ?_)
  show Ev (fun _ => if ms l < wrap64 (a * (2 * (l.length : Int))) then some (-1) else if ms l > wrap64 (b * (2 * (l.length : Int))) then some 1 else some 0) _
  rw [bd a (by omega) (by omega), bd b (by omega) (by omega)]
  refine ifc (fun h => ?_) (fun h => ?_)
  · rw [if_pos h]; exact done rfl
  · rw [if_neg h]
    refine ifc (fun h => ?_) (fun h => ?_)
    · rw [if_pos h]; exact done rfl
    · rw [if_neg h]; exact done rfl
/-! ### mirrored -/
def mir (x : Cl) : Cl := ⟨-x.f0, x.f1⟩
theorem mir_iso : Iso mir := by
  refine ⟨?_, ?_, ?_, ?_⟩
  · intro x y
    have e : ∀ u : Int, ab (-u) = ab u := by intro u; unfold ab; split <;> split <;> omega
    unfold nr mir
    rw [show -x.f0 - -y.f0 = -(x.f0 - y.f0) from by omega, e]
  · intro x y h
    injection h with h1 h2
    cases x; cases y
    simp only at h1 h2
    congr 1; omega
  · intro A B
    refine ⟨-A, B, fun x => ?_⟩
    unfold mir sh
    congr 1
    show -(x.f0 - A) = -x.f0 - -A
    omega
  · rintro x ⟨⟨a, b⟩, c, d⟩
    refine ⟨⟨?_, ?_⟩, ?_, ?_⟩ <;> simp only [mir] <;> omega
theorem ms_mir (W : Int) (l : List Cl) : ms (l.map (fun x => (⟨W - x.f0, x.f1⟩ : Cl))) = (2 * W + 2) * (l.length : Int) - ms l := by
  induction l with
  | nil => show (0 : Int) = (2 * W + 2) * ((0 : Nat) : Int) - 0; simp
  | cons x l ih =>
    show 2 * (W - x.f0) + 1 + ms (l.map _) = (2 * W + 2) * ((l.length + 1 : Nat) : Int) - (2 * x.f0 + 1 + ms l)
    rw [ih, Int.natCast_add, Int.mul_add]
    omega
/-- A mirrored body tips to the other side. -/
theorem mir_side {l : List Cl} (b : IsB l) : ∃ s, Ev (fun k => impl_bodySide.f k l) s ∧ Ev (fun k => impl_bodySide.f k (pd (l.map mir) (pos_map b.v.n0))) (-s) ∧ (s = 0 ∨ s = 1 ∨ s = -1) := by
  have n0 := b.v.n0
  obtain ⟨a, c, e1, g, _⟩ := sd_ev l (BodyV.laid b.v)
  have bm := mir_iso.body b
  obtain ⟨a', c', f1, k, _⟩ := sd_ev _ (BodyV.laid bm.v)
  refine ⟨sd l a c, e1, ?_, by unfold sd; split; · simp
                               split <;> simp⟩
  have hs : sd (pd (l.map mir) (pos_map b.v.n0)) a' c' = -(sd l a c) := by
    have hpm : 0 < (l.map mir).length := pos_map b.v.n0
    obtain ⟨s1, s2⟩ := pd_spec (l.map mir) (pos_map b.v.n0)
    have hdn : dn (l.map mir)[0].f1 (l.map mir) = 0 := by
      obtain ⟨x, hx, ex⟩ := PureReach.dn_at (pos_map (f := mir) b.v.n0)
      have hx' := (PureLoose.dn_le (l.map mir) (l.map mir)[0].f1).2
      obtain ⟨z, hz, ez⟩ := List.mem_map.1 hx
      have h1 := (b.v.each z hz).2.1
      have h2 : x.f1 = z.f1 := by rw [← ez]; rfl
      obtain ⟨y, hy, ey⟩ := b.v.ground
      have h3 := hx' (mir y) (List.mem_map_of_mem hy)
      have h4 : (mir y).f1 = y.f1 := rfl
      omega
    generalize hW : lw (l.map mir)[0].f0 (l.map mir) = W at s2
    rw [hdn, List.map_map] at s2
    have e : (sh W 0 ∘ mir) = fun x => (⟨-W - x.f0, x.f1⟩ : Cl) := by
      funext x; simp only [Function.comp, sh, mir]; congr 1 <;> omega
    rw [e] at s2
    generalize hp : pd (l.map mir) (pos_map b.v.n0) = p at *
    have hlen : p.length = l.length := by rw [s2.length_eq, List.length_map]
    have hms : ms p = (2 * (-W) + 2) * (l.length : Int) - ms l := by rw [ms_perm s2]; exact ms_mir (-W) l
    have g2 : Gr p (-W - c + 1) (-W - a + 1) := by
      have hm : ∀ z, z ∈ p ↔ ∃ x ∈ l, (⟨-W - x.f0, x.f1⟩ : Cl) = z := fun z => (s2.mem_iff).trans List.mem_map
      refine ⟨?_, ?_, ?_, ?_⟩
      · obtain ⟨x, hx, h1, h2⟩ := g.e1
        exact ⟨_, (hm _).2 ⟨x, hx, rfl⟩, h1, by show -W - x.f0 = _; omega⟩
      · intro z hz h0
        obtain ⟨x, hx, rfl⟩ := (hm z).1 hz
        have := g.h1 x hx h0
        show -W - c + 1 ≤ -W - x.f0
        omega
      · obtain ⟨x, hx, h1, h2⟩ := g.e0
        exact ⟨_, (hm _).2 ⟨x, hx, rfl⟩, h1, by show -W - x.f0 + 1 = _; omega⟩
      · intro z hz h0
        obtain ⟨x, hx, rfl⟩ := (hm z).1 hz
        have := g.h0 x hx h0
        show -W - x.f0 + 1 ≤ -W - a + 1
        omega
    obtain ⟨ea, ec⟩ := Gr.eq (fun _ => Iff.rfl) k g2
    unfold sd
    rw [hlen, hms, ea, ec]
    have t1 : (2 * (-W) + 2) * (l.length : Int) = -2 * (W * (l.length : Int)) + 2 * (l.length : Int) := by rw [Int.add_mul]; congr 1; rw [Int.mul_assoc, Int.neg_mul]; omega
    have t2 : (-W - c + 1) * (2 * (l.length : Int)) = -2 * (W * (l.length : Int)) - c * (2 * (l.length : Int)) + 2 * (l.length : Int) := by
      rw [Int.add_mul, Int.sub_mul, Int.one_mul]; congr 2; rw [Int.neg_mul, Int.mul_left_comm]; omega
    have t3 : (-W - a + 1) * (2 * (l.length : Int)) = -2 * (W * (l.length : Int)) - a * (2 * (l.length : Int)) + 2 * (l.length : Int) := by
      rw [Int.add_mul, Int.sub_mul, Int.one_mul]; congr 2; rw [Int.neg_mul, Int.mul_left_comm]; omega
    rw [t1, t2, t3]
    have hac : a + 1 ≤ c := by
      obtain ⟨x, hx, h1, h2⟩ := g.e0
      have := g.h1 x hx h1
      omega
    have hm2 : a * (2 * (l.length : Int)) ≤ c * (2 * (l.length : Int)) := Int.mul_le_mul_of_nonneg_right (by omega) (by omega)
    generalize a * (2 * (l.length : Int)) = u at *
    generalize c * (2 * (l.length : Int)) = w at *
    generalize W * (l.length : Int) = q at *
    split
    · rw [if_neg (by omega), if_pos (by omega)]
    · split
      · rw [if_pos (by omega)]; rfl
      · rw [if_neg (by omega), if_neg (by omega)]; rfl
  rw [← hs]; exact f1
end Go.Proofs.Ytckhmeadflafaaa.PureTips
