/- All bodies of a number of cells: the program's sorted list and the reference's list have the same members, each once. No conditions beyond those of the lemmas' own hypotheses. -/
import Derived.Test.YtckhmeadflafaaaGreatCompactB
import Derived.Test.YtckhmeadflafaaaGreatBesides
import Derived.Test.YtckhmeadflafaaaGreatGround
import Derived.Test.YtckhmeadflafaaaGreatSide
import Derived.Test.YtckhmeadflafaaaGreatXFcx8
namespace Go.Proofs.YtckhmeadflafaaaGreat.PureCountB
open Go.RowKit YtckhmeadflafaaaGreat.XFc YtckhmeadflafaaaGreat.Plain YtckhmeadflafaaaGreat.PureCells YtckhmeadflafaaaGreat.PureBody YtckhmeadflafaaaGreat.PureGround YtckhmeadflafaaaGreat.PureSide YtckhmeadflafaaaGreat.PurePut YtckhmeadflafaaaGreat.PureHang YtckhmeadflafaaaGreat.PureLoose YtckhmeadflafaaaGreat.PureReach YtckhmeadflafaaaGreat.PureShape YtckhmeadflafaaaGreat.PureHas YtckhmeadflafaaaGreat.PureEdge YtckhmeadflafaaaGreat.PureBesides YtckhmeadflafaaaGreat.PureCompactB YtckhmeadflafaaaGreatW.PrintWords YtckhmeadflafaaaGreatW.PrintLast YtckhmeadflafaaaGreatW.PrintMore
set_option linter.unusedVariables false
set_option linter.unusedSimpArgs false
theorem perm_of {α : Type} : ∀ {l m : List α}, l.Nodup → m.Nodup → (∀ x, x ∈ l ↔ x ∈ m) → l.Perm m := by
 intro l
 induction l with
 | nil =>
  intro m _ _ h
  cases m with
  | nil => exact List.Perm.nil
  | cons a m => exact absurd ((h a).2 (List.mem_cons_self ..)) (by simp)
 | cons a l ih =>
  intro m hl hm h
  obtain ⟨s, t, rfl⟩ := List.append_of_mem ((h a).1 (List.mem_cons_self ..))
  obtain ⟨ha, hl⟩ := List.nodup_cons.1 hl
  have hst : (a :: (s ++ t)).Nodup := (List.perm_middle.nodup_iff).1 hm
  obtain ⟨hb, hst⟩ := List.nodup_cons.1 hst
  refine ((ih hl hst fun x => ?_).cons a).trans List.perm_middle.symm
  have hx := h x
  simp only [List.mem_cons, List.mem_append] at hx hb ⊢
  constructor
  ·intro hxl
   rcases hx.1 (Or.inr hxl) with h1 | h1 | h1
   ·exact Or.inl h1
   ·subst h1; exact absurd hxl ha
   ·exact Or.inr h1
  ·intro hxs
   rcases hx.2 (hxs.elim Or.inl fun h1 => Or.inr (Or.inr h1)) with h1 | h1
   ·subst h1; exact absurd hxs hb
   ·exact h1

/-! ### the bodies with one cell more -/
def gr (b : Bd) (c : Cl) : Bd := pd (b ++ [c]) (one_pos b c)
def kids (b : Bd) : List Bd := (edge b).map (gr b)
def nexts (L : List Bd) : List Bd := L.flatMap kids
theorem kids_len (b : Bd) : (kids b).length ≤ 196 := by unfold kids; rw [List.length_map]; exact edge_len b
theorem nexts_len : ∀ L : List Bd, (nexts L).length ≤ 196 * L.length := by
 intro L
 induction L with
 | nil => exact Nat.zero_le _
 | cons b L ih =>
  have e : nexts (b :: L) = kids b ++ nexts L := rfl
  have := kids_len b
  rw [e, List.length_append, List.length_cons]; omega
theorem nexts_mem (L : List Bd) (x : Bd) : x ∈ nexts L ↔ ∃ b ∈ L, x ∈ kids b := List.mem_flatMap
theorem gr_len (b : Bd) (c : Cl) : (gr b c).length = b.length + 1 := by unfold gr; rw [pd_len, List.length_append, List.length_singleton]
theorem kid_of {b : Bd} (hb : IsB b) (hn : b.length ≤ 11) {x : Bd} (hx : x ∈ kids b) : IsB x ∧ x.length = b.length + 1 := by
 obtain ⟨c, hc, rfl⟩ := List.mem_map.1 hx
 exact ⟨one_body hb hn hc, gr_len b c⟩
theorem edge_pos {l : Bd} (b : IsB l) : 0 < (edge l).length := by
 obtain ⟨u, hu, eu⟩ := lw_at b.v.n0
 rw [b.v.lw0 b.v.n0] at eu
 obtain ⟨⟨u0, u1⟩, u2, u3⟩ := b.v.each u hu
 refine List.length_pos_of_mem (a := ⟨-1, u.f1⟩) ((edge_mem l ⟨-1, u.f1⟩).2 ⟨⟨by show (-1 : Int) ≤ -1; decide, by show (-1 : Int) ≤ 12; decide⟩, ⟨by show -1 ≤ u.f1; omega, u3⟩, ⟨u, hu, (nb_near u _).2 ⟨1, by omega, ?_⟩⟩, fun hm => ?_⟩)
 ·show (⟨-1, u.f1⟩ : Cl) = ⟨u.f0 + -1, u.f1 + 0⟩
  rw [eu, Int.add_zero]; rfl
 ·obtain ⟨⟨h1, _⟩, _⟩ := b.v.each _ hm
  simp only at h1
  omega
theorem edge_small {l : Bd} {c : Cl} (hc : c ∈ edge l) : Small c := by
 obtain ⟨h1, h2, _⟩ := (edge_mem l c).1 hc
 exact ⟨⟨by omega, by omega⟩, by omega, by omega⟩
/-- A list of bodies of so many cells. -/
structure Lv (m : Nat) (L : List Bd) : Prop where
 each : ∀ b ∈ L, IsB b ∧ b.length = m
theorem Lv.drop {m : Nat} {L : List Bd} (h : Lv m L) (i : Nat) : Lv m (L.drop i) := ⟨fun b hb => h.each b (List.mem_of_mem_drop hb)⟩
theorem Lv.next {m : Nat} {L : List Bd} (h : Lv m L) (hm : m ≤ 11) : Lv (m + 1) (nexts L) := by
 refine ⟨fun x hx => ?_⟩
 obtain ⟨b, hb, hk⟩ := (nexts_mem L x).1 hx
 obtain ⟨h1, h2⟩ := h.each b hb
 obtain ⟨k1, k2⟩ := kid_of h1 (by omega) hk
 exact ⟨k1, by omega⟩
theorem rd_bd {L : List Bd} {i : Nat} (h : i < L.length) : rdBd L (i : Int) = L[i] := by rw [rd_bt, bt_lt h]
theorem rd_l {L : List Bd} {i : Nat} (h : i < L.length) : rd_L4 L (i : Int) = L[i] := by
 unfold rd_L4; rw [Int.toNat_natCast]; exact getD_lt h _

/-! ### the program's rounds -/
theorem impl_l2 {b : Bd} (hb : IsB b) (x21 x22 : Int) (x25 : List Bd) (x26 x27 : Int) (r : Int × Int × Bool) : ∀ i, i ≤ (edge b).length → ∀ acc : List Bd, acc.length + ((edge b).length - i) ≤ 5000000000000 → Ev (fun k => impl_CountBodies.l1 k (acc ++ ((edge b).drop i).map (gr b)) x21 x22 x25 x26 (wrap64 (x27 + 1))) r → Ev (fun k => impl_CountBodies.l2 k acc b x21 x22 x25 x26 x27 (edge b) ((edge b).length : Int) (i : Int)) r := by
 have hel := edge_len b
 refine downTo (edge b).length ?_ ?_
 ·intro acc ha h
  rw [List.drop_length, List.map_nil, List.append_nil] at h
  exact Ev.step (fun k => by simp only [impl_CountBodies.l2]; exact rfl) (ifn (by omega) h)
 ·intro i hi ih acc ha h
  have hc : (edge b)[i] ∈ edge b := List.getElem_mem hi
  have hw := withCell_ev (l := b) (by have := hb.v.n1; omega) (fun x hx => (hb.v.each x hx).small) (edge_small hc)
  refine Ev.step (fun k => by simp only [impl_CountBodies.l2]; exact rfl) (ifp (by omega) (ifp (by omega) (ifp (by omega) ?_)))
  rw [rdC hi, wrapS hi (by omega)]
  refine Ev.bind hw (ifp (by omega) (ih (acc ++ [gr b (edge b)[i]]) ?_ ?_))
  ·rw [List.length_append, List.length_singleton]; omega
  ·rw [drop_cons hi, List.map_cons] at h
   rw [List.append_assoc, List.singleton_append]; exact h
theorem impl_l1 {m : Nat} {L : List Bd} (v : Lv m L) (hn : L.length ≤ 2000000000) (x21 x22 : Int) (r : Int × Int × Bool) : ∀ i, i ≤ L.length → ∀ acc : List Bd, acc.length + 196 * (L.length - i) ≤ 5000000000000 → Ev (fun k => (slices_SortFunc_CountBodies_1.f (acc ++ nexts (L.drop i))).bind fun t => ((slices_CompactFunc_CountBodies_2.f k t).bind fun u => (impl_CountBodies.l0 k u x21 (wrap64 (x22 + 1))))) r → Ev (fun k => impl_CountBodies.l1 k acc x21 x22 L (L.length : Int) (i : Int)) r := by
 refine downTo L.length ?_ ?_
 ·intro acc ha h
  rw [List.drop_length, show nexts [] = [] from rfl, List.append_nil] at h
  exact Ev.step (fun k => by simp only [impl_CountBodies.l1]; exact rfl) (ifn (by omega) h)
 ·intro i hi ih acc ha h
  obtain ⟨hb, hbl⟩ := v.each L[i] (List.getElem_mem hi)
  have he := besides_ev hb
  have hel := edge_len L[i]
  refine Ev.step (fun k => by simp only [impl_CountBodies.l1]; exact rfl) (ifp (by omega) (ifp (by omega) (ifp (by omega) ?_)))
  rw [rd_bd hi]
  refine Ev.bind he (impl_l2 hb x21 x22 L (L.length : Int) (i : Int) r 0 (Nat.zero_le _) acc (by omega) ?_)
  rw [wrapS hi (by omega), List.drop_zero]
  refine ih (acc ++ (edge L[i]).map (gr L[i])) (by rw [List.length_append, List.length_map]; omega) ?_
  rw [drop_cons hi] at h
  have e : nexts (L[i] :: L.drop (i + 1)) = (edge L[i]).map (gr L[i]) ++ nexts (L.drop (i + 1)) := rfl
  rw [e] at h
  rw [List.append_assoc]; exact h

/-! ### what stands -/
open Classical in
noncomputable def zb (b : Bd) : Bool := decide (Ev (fun k => impl_bodySide.f k b) 0)
open Classical in
theorem side_zb {b : Bd} (hb : IsB b) : ∃ s, Ev (fun k => spec_l8Side.f k b) s ∧ Ev (fun k => impl_bodySide.f k b) s ∧ (s = 0 ↔ zb b = true) := by
 obtain ⟨s, e1, e2⟩ := side_ev b (BodyV.laid hb.v)
 refine ⟨s, e1, e2, ?_⟩
 unfold zb
 rw [decide_eq_true_eq]
 exact ⟨fun h => by rw [h] at e2; exact e2, fun h => ev_fun e2 h⟩
theorem impl_l3 {m : Nat} {L : List Bd} (v : Lv m L) (hn : L.length ≤ 1000000000000) : ∀ i, i ≤ L.length → ∀ a : Nat, a ≤ i → Ev (fun k => impl_CountBodies.l3 k L (a : Int) L (L.length : Int) (i : Int)) ((L.length : Int), ((a + (L.drop i).countP zb : Nat) : Int), true) := by
 refine downTo L.length ?_ ?_
 ·intro a ha
  rw [List.drop_length, List.countP_nil, Nat.add_zero]
  exact Ev.step (fun k => by simp only [impl_CountBodies.l3]; exact rfl) (ifn (by omega) (done rfl))
 ·intro i hi ih a ha
  obtain ⟨hb, _⟩ := v.each L[i] (List.getElem_mem hi)
  obtain ⟨s, _, e2, hs⟩ := side_zb hb
  refine Ev.step (fun k => by simp only [impl_CountBodies.l3]; exact rfl) (ifp (by omega) (ifp (by omega) (ifp (by omega) ?_)))
  rw [rd_bd hi, wrapS hi (by omega), drop_cons hi, List.countP_cons]
  refine Ev.bind e2 ?_
  by_cases h : s = 0
  ·refine ifp h ?_
   rw [hs.1 h, if_pos rfl, show wrap64 ((a : Int) + 1) = ((a + 1 : Nat) : Int) from by rw [w64 (by omega) (by omega)]; omega]
   have := ih (a + 1) (by omega)
   rw [show a + ((L.drop (i + 1)).countP zb + 1) = a + 1 + (L.drop (i + 1)).countP zb from by omega]
   exact this
  ·refine ifn h ?_
   rw [if_neg (fun hh => h (hs.2 hh)), Nat.add_zero]
   exact ih a (by omega)
theorem spec_l0 {m : Nat} {L : List Bd} (v : Lv m L) (hn : L.length ≤ 1000000000000) : ∀ i, i ≤ L.length → ∀ a : Nat, a ≤ i → Ev (fun k => spec_CountBodies.l0 k L (a : Int) (i : Int)) ((L.length : Int), ((a + (L.drop i).countP zb : Nat) : Int), true) := by
 refine downTo L.length ?_ ?_
 ·intro a ha
  rw [List.drop_length, List.countP_nil, Nat.add_zero]
  exact Ev.step (fun k => by simp only [spec_CountBodies.l0]; exact rfl) (ifn (by omega) (done rfl))
 ·intro i hi ih a ha
  obtain ⟨hb, _⟩ := v.each L[i] (List.getElem_mem hi)
  obtain ⟨s, e1, _, hs⟩ := side_zb hb
  refine Ev.step (fun k => by simp only [spec_CountBodies.l0]; exact rfl) (ifp (by omega) (ifp (by omega) ?_))
  rw [rd_l hi, wrapS hi (by omega), drop_cons hi, List.countP_cons]
  refine Ev.bind e1 ?_
  by_cases h : s = 0
  ·refine ifp h ?_
   rw [hs.1 h, if_pos rfl, show wrap64 ((a : Int) + 1) = ((a + 1 : Nat) : Int) from by rw [w64 (by omega) (by omega)]; omega]
   have := ih (a + 1) (by omega)
   rw [show a + ((L.drop (i + 1)).countP zb + 1) = a + 1 + (L.drop (i + 1)).countP zb from by omega]
   exact this
  ·refine ifn h ?_
   rw [if_neg (fun hh => h (hs.2 hh)), Nat.add_zero]
   exact ih a (by omega)

/-! ### the reference's rounds -/
theorem eq_flag (u v : Cl) : ((u.f0 == v.f0 && (u.f1 == v.f1)) = true) ↔ u = v := by
 cases u with
 | mk a b =>
  cases v with
  | mk c d => simp
theorem found_l1 (L : List Bd) (hn : L.length ≤ 1000000000000) (b : Bd) (hbn : b.length ≤ 1000000) (i : Nat) (hi : i < L.length) (hl : L[i].length = b.length) (r0 : Bool) (h0 : Ev (fun k => spec_l8Found.l0 k L b ((i + 1 : Nat) : Int)) r0) : ∀ j, j ≤ b.length → ∃ r, Ev (fun k => spec_l8Found.l1 k L b (i : Int) true (j : Int)) r ∧ (r = true ↔ (L[i].drop j = b.drop j ∨ r0 = true)) := by
 refine downTo b.length ?_ ?_
 ·refine ⟨true, Ev.step (fun k => by simp only [spec_l8Found.l1]; exact rfl) (ifn (by omega) (ifp (Eq.refl true) (done rfl))), ?_⟩
  rw [List.drop_length, List.drop_eq_nil_of_le (show L[i].length ≤ b.length by omega)]
  simp
 ·intro j hj ⟨r, e, hr⟩
  have hj2 : j < L[i].length := by omega
  have skip : Ev (fun k => spec_l8Found.l1 k L b (i : Int) false ((j + 1 : Nat) : Int)) r0 := by
   refine Ev.step (fun k => by simp only [spec_l8Found.l1]; exact rfl) ?_
   rw [wrapS hi (by omega)]
   exact ifc (fun _ => ifn Bool.false_ne_true h0) fun _ => ifn Bool.false_ne_true h0
  by_cases c : L[i][j] = b[j]
  ·refine ⟨r, Ev.step (fun k => by simp only [spec_l8Found.l1]; exact rfl) (ifp (by omega) (ifp (Eq.refl true) (ifp (by omega) (ifp (by omega) (ifp (by omega) ?_))))), ?_⟩
   ·rw [rd_l hi]
    refine ifp (by omega) ?_
    rw [rdC hj2, rdC hj, (eq_flag _ _).2 c, wrapS hj (by omega)]
    exact e
   ·rw [hr, drop_cons hj2, drop_cons hj, c]; simp only [List.cons.injEq, true_and]
  ·refine ⟨r0, Ev.step (fun k => by simp only [spec_l8Found.l1]; exact rfl) (ifp (by omega) (ifp (Eq.refl true) (ifp (by omega) (ifp (by omega) (ifp (by omega) ?_))))), ?_⟩
   ·rw [rd_l hi]
    refine ifp (by omega) ?_
    rw [rdC hj2, rdC hj, Bool.eq_false_iff.2 (fun hh => c ((eq_flag _ _).1 hh)), wrapS hj (by omega)]
    exact skip
   ·rw [drop_cons hj2, drop_cons hj]; simp only [List.cons.injEq, c, false_and, false_or]
theorem found_ev (L : List Bd) (hn : L.length ≤ 1000000000000) (b : Bd) (hbn : b.length ≤ 1000000) (hl : ∀ x ∈ L, x.length = b.length) : ∃ r, Ev (fun k => spec_l8Found.f k L b) r ∧ (r = true ↔ b ∈ L) := by
 have key : ∀ i, i ≤ L.length → ∃ r, Ev (fun k => spec_l8Found.l0 k L b (i : Int)) r ∧ (r = true ↔ b ∈ L.drop i) := by
  refine downTo L.length ?_ ?_
  ·exact ⟨false, Ev.step (fun k => by simp only [spec_l8Found.l0]; exact rfl) (ifn (by omega) (done rfl)), by rw [List.drop_length]; simp⟩
  ·intro i hi ⟨r0, e0, h0⟩
   obtain ⟨r, e, hr⟩ := found_l1 L hn b hbn i hi (hl _ (List.getElem_mem hi)) r0 e0 0 (Nat.zero_le _)
   rw [List.drop_zero, List.drop_zero] at hr
   refine ⟨r, Ev.step (fun k => by simp only [spec_l8Found.l0]; exact rfl) (ifp (by omega) e), ?_⟩
   rw [hr, h0, drop_cons hi, List.mem_cons]
   exact ⟨fun h => h.imp Eq.symm id, fun h => h.imp Eq.symm id⟩
 obtain ⟨r, e, hr⟩ := key 0 (Nat.zero_le _)
 rw [List.drop_zero] at hr
 exact ⟨r, e, hr⟩
theorem spec_l2 {m : Nat} {L : List Bd} (v : Lv m L) (hm : m ≤ 11) (hn : L.length ≤ 2000000000) (n cnt : Int) (j : Nat) (hj : j < L.length) : ∀ i, i ≤ (edge L[j]).length → ∀ X : List Bd, Lv (m + 1) X → X.Nodup → X.length + ((edge L[j]).length - i) ≤ 1000000000000 → ∃ Y : List Bd, (Lv (m + 1) Y ∧ Y.Nodup ∧ (∀ x, x ∈ Y ↔ x ∈ X ∨ x ∈ ((edge L[j]).drop i).map (gr L[j])) ∧ Y.length ≤ X.length + ((edge L[j]).length - i)) ∧ ∀ r, Ev (fun k => spec_l8All.l1 k n L cnt Y ((j + 1 : Nat) : Int)) r → Ev (fun k => spec_l8All.l2 k n L cnt X (j : Int) (edge L[j]) (i : Int)) r := by
 obtain ⟨hb, hbl⟩ := v.each L[j] (List.getElem_mem hj)
 have hel := edge_len L[j]
 refine downTo (edge L[j]).length ?_ ?_
 ·intro X vX nX hX
  refine ⟨X, ⟨vX, nX, fun x => by rw [List.drop_length]; simp, by omega⟩, fun r h => ?_⟩
  refine Ev.step (fun k => by simp only [spec_l8All.l2]; exact rfl) (ifn (by omega) ?_)
  rw [wrapS hj (by omega)]; exact h
 ·intro i hi ih X vX nX hX
  have hc : (edge L[j])[i] ∈ edge L[j] := List.getElem_mem hi
  obtain ⟨p1, p2⟩ := ins_ev (l := L[j]) (by omega) (fun x hx => (hb.v.each x hx).small) (edge_small hc)
  have hk : gr L[j] (edge L[j])[i] ∈ kids L[j] := List.mem_map_of_mem hc
  obtain ⟨k1, k2⟩ := kid_of hb (by omega) hk
  obtain ⟨f, ef, hf⟩ := found_ev X (by omega) (gr L[j] (edge L[j])[i]) (by omega) (fun x hx => by have := (vX.each x hx).2; omega)
  cases hff : f with
  | true =>
   obtain ⟨Y, ⟨y1, y2, y3, y4⟩, y5⟩ := ih X vX nX (by omega)
   refine ⟨Y, ⟨y1, y2, fun x => ?_, by omega⟩, fun r h => ?_⟩
   ·rw [y3, drop_cons hi, List.map_cons, List.mem_cons]
    constructor
    ·rintro (h | h)
     ·exact Or.inl h
     ·exact Or.inr (Or.inr h)
    ·rintro (h | h | h)
     ·exact Or.inl h
     ·rw [h]; exact Or.inl (hf.1 hff)
     ·exact Or.inr h
   ·refine Ev.step (fun k => by simp only [spec_l8All.l2]; exact rfl) (ifp (by omega) (ifp (by omega) (ifp (by omega) (ifp (by omega) ?_))))
    rw [rd_l hj, rdC hi, wrapS hi (by omega)]
    exact Ev.bind p1 (Ev.bind p2 (Ev.bind ef (ifp hff (y5 r h))))
  | false =>
   have hnew : gr L[j] (edge L[j])[i] ∉ X := fun h => by have := hf.2 h; rw [hff] at this; cases this
   have vX' : Lv (m + 1) (X ++ [gr L[j] (edge L[j])[i]]) := ⟨fun x hx => by
    rcases List.mem_append.1 hx with h | h
    ·exact vX.each x h
    ·rw [List.mem_singleton.1 h]; exact ⟨k1, by omega⟩⟩
   have nX' : (X ++ [gr L[j] (edge L[j])[i]]).Nodup := by
    rw [List.nodup_append]
    refine ⟨nX, by simp, fun a ha x hx e => ?_⟩
    rw [List.mem_singleton] at hx
    subst hx; subst e; exact hnew ha
   obtain ⟨Y, ⟨y1, y2, y3, y4⟩, y5⟩ := ih (X ++ [gr L[j] (edge L[j])[i]]) vX' nX' (by rw [List.length_append, List.length_singleton]; omega)
   rw [List.length_append, List.length_singleton] at y4
   refine ⟨Y, ⟨y1, y2, fun x => ?_, by omega⟩, fun r h => ?_⟩
   ·rw [y3, drop_cons hi, List.map_cons, List.mem_cons, List.mem_append, List.mem_singleton, or_assoc]
   ·refine Ev.step (fun k => by simp only [spec_l8All.l2]; exact rfl) (ifp (by omega) (ifp (by omega) (ifp (by omega) (ifp (by omega) ?_))))
    rw [rd_l hj, rdC hi, wrapS hi (by omega)]
    refine Ev.bind p1 (Ev.bind p2 (Ev.bind ef (ifn ?_ (ifp (by omega) (y5 r h)))))
    rw [hff]; exact Bool.false_ne_true
theorem spec_l1 {m : Nat} {L : List Bd} (v : Lv m L) (hm : m ≤ 11) (hn : L.length ≤ 2000000000) (n cnt : Int) : ∀ j, j ≤ L.length → ∀ X : List Bd, Lv (m + 1) X → X.Nodup → X.length + 196 * (L.length - j) ≤ 1000000000000 → ∃ Y : List Bd, (Lv (m + 1) Y ∧ Y.Nodup ∧ (∀ x, x ∈ Y ↔ x ∈ X ∨ x ∈ nexts (L.drop j)) ∧ Y.length ≤ X.length + 196 * (L.length - j)) ∧ ∀ r, Ev (fun k => spec_l8All.l0 k n Y (wrap64 (cnt + 1))) r → Ev (fun k => spec_l8All.l1 k n L cnt X (j : Int)) r := by
 refine downTo L.length ?_ ?_
 ·intro X vX nX hX
  refine ⟨X, ⟨vX, nX, fun x => by rw [List.drop_length, show nexts [] = [] from rfl]; simp, by omega⟩, fun r h => ?_⟩
  exact Ev.step (fun k => by simp only [spec_l8All.l1]; exact rfl) (ifn (by omega) h)
 ·intro j hj ih X vX nX hX
  obtain ⟨hb, hbl⟩ := v.each L[j] (List.getElem_mem hj)
  have hel := edge_len L[j]
  have he := edge_ev L[j] (by omega) (fun x hx => (hb.v.each x hx).small)
  obtain ⟨Y, ⟨y1, y2, y3, y4⟩, y5⟩ := spec_l2 v hm hn n cnt j hj 0 (Nat.zero_le _) X vX nX (by omega)
  rw [List.drop_zero] at y3
  obtain ⟨Z, ⟨z1, z2, z3, z4⟩, z5⟩ := ih Y y1 y2 (by omega)
  refine ⟨Z, ⟨z1, z2, fun x => ?_, by omega⟩, fun r h => ?_⟩
  ·have e : nexts (L[j] :: L.drop (j + 1)) = (edge L[j]).map (gr L[j]) ++ nexts (L.drop (j + 1)) := rfl
   rw [z3, y3, drop_cons hj, e, List.mem_append, or_assoc]
  ·refine Ev.step (fun k => by simp only [spec_l8All.l1]; exact rfl) (ifp (by omega) (ifp (by omega) ?_))
   rw [rd_l hj]
   exact Ev.bind he (y5 r (z5 r h))

/-! ### both -/
theorem db_len (L : List Bd) : ∀ j, (db L j).length ≤ j := by
 intro j
 induction j with
 | zero => exact Nat.le_refl _
 | succ j ih =>
  unfold db
  split
  ·omega
  ·rw [List.length_append, List.length_singleton]; omega
theorem once_len (L : List Bd) : (once L).length ≤ L.length := by
 have := db_len (sortB L) (sortB L).length
 rw [(sortB_perm L).length_eq] at this
 unfold once
 rw [(sortB_perm L).length_eq]; exact this
theorem pow_small {j : Nat} (h : j ≤ 5) : (196 : Nat) ^ j ≤ 289254654976 := by
 have h1 : (196 : Nat) ^ j ≤ 196 ^ 5 := Nat.pow_le_pow_right (by decide) h
 have h2 : (196 : Nat) ^ 5 = 289254654976 := by decide
 omega
theorem rounds : ∀ (d j : Nat), j + d ≤ 5 → ∀ I S : List Bd, Lv (j + 1) I → Lv (j + 1) S → I.Nodup → S.Nodup → (∀ x, x ∈ I ↔ x ∈ S) → 0 < I.length → I.length ≤ 196 ^ j → S.length ≤ 196 ^ j → ∃ (r : Int × Int × Bool) (T : List Bd), Ev (fun k => impl_CountBodies.l0 k I ((j + d : Nat) : Int) (j : Int)) r ∧ Ev (fun k => spec_l8All.l0 k ((j + d + 1 : Nat) : Int) S ((j + 1 : Nat) : Int)) T ∧ Ev (fun k => spec_CountBodies.l0 k T 0 0) r ∧ r.2.1 ≤ r.1 := by
 intro d
 induction d with
 | zero =>
  intro j hj I S vI vS nI nS hIS hI0 hI hS
  have hp := pow_small (show j ≤ 5 by omega)
  have p := perm_of nI nS hIS
  have e1 := impl_l3 vI (by omega) 0 (Nat.zero_le _) 0 (Nat.le_refl _)
  have e2 := spec_l0 vS (by omega) 0 (Nat.zero_le _) 0 (Nat.le_refl _)
  rw [List.drop_zero, Nat.zero_add] at e1 e2
  rw [← p.length_eq, ← p.countP_eq] at e2
  refine ⟨_, S, Ev.step (fun k => by simp only [impl_CountBodies.l0]; exact rfl) (ifn (by omega) e1), Ev.step (fun k => by simp only [spec_l8All.l0]; exact rfl) (ifn (by omega) (done rfl)), e2, by show ((I.countP zb : Nat) : Int) ≤ (I.length : Int); have := List.countP_le_length (p := zb) (l := I); omega⟩
 | succ d ih =>
  intro j hj I S vI vS nI nS hIS hI0 hI hS
  have hp := pow_small (show j ≤ 4 + 1 by omega)
  have hp1 := pow_small (show j + 1 ≤ 5 by omega)
  have hpe : (196 : Nat) ^ (j + 1) = 196 ^ j * 196 := Nat.pow_succ ..
  obtain ⟨Y, ⟨y1, y2, y3, y4⟩, y5⟩ := spec_l1 vS (by omega) (by omega) ((j + (d + 1) + 1 : Nat) : Int) ((j + 1 : Nat) : Int) 0 (Nat.zero_le _) [] ⟨fun x hx => absurd hx (by simp)⟩ List.nodup_nil (by simp only [List.length_nil]; omega)
  rw [List.drop_zero] at y3
  simp only [List.length_nil, Nat.zero_add, Nat.sub_zero] at y4
  have hnl := nexts_len I
  have hn0 : 0 < (nexts I).length := by
   obtain ⟨hb, _⟩ := vI.each I[0] (List.getElem_mem hI0)
   have := edge_pos hb
   refine List.length_pos_of_mem (a := gr I[0] (edge I[0])[0]) ((nexts_mem I _).2 ⟨I[0], List.getElem_mem hI0, List.mem_map_of_mem (List.getElem_mem this)⟩)
  have vN := vI.next (by omega)
  obtain ⟨o1, o2⟩ := once_ev (nexts I) hn0 (by omega) (fun x hx => by have := (vN.each x hx).2; omega)
  obtain ⟨q1, q2⟩ := once_spec (nexts I)
  have hol := once_len (nexts I)
  have hmem : ∀ x, x ∈ once (nexts I) ↔ x ∈ Y := by
   intro x
   rw [q2, y3, nexts_mem, nexts_mem]
   constructor
   ·rintro ⟨b, hb, hk⟩; exact Or.inr ⟨b, (hIS b).1 hb, hk⟩
   ·rintro (h | ⟨b, hb, hk⟩)
    ·exact absurd h (by simp)
    ·exact ⟨b, (hIS b).2 hb, hk⟩
  have ho0 : 0 < (once (nexts I)).length := by
   have h1 : (nexts I)[0] ∈ once (nexts I) := (q2 _).2 (List.getElem_mem hn0)
   exact List.length_pos_of_mem h1
  obtain ⟨r, T, e1, e2, e3, e4⟩ := ih (j + 1) (by omega) (once (nexts I)) Y ⟨fun x hx => vN.each x ((q2 x).1 hx)⟩ y1 q1 y2 hmem ho0 (by omega) (by omega)
  rw [show j + 1 + d = j + (d + 1) from by omega] at e1 e2
  refine ⟨r, T, Ev.step (fun k => by simp only [impl_CountBodies.l0]; exact rfl) (ifp (by omega) ?_), Ev.step (fun k => by simp only [spec_l8All.l0]; exact rfl) (ifp (by omega) (y5 T ?_)), e3, e4⟩
  ·refine impl_l1 vI (by omega) _ _ r 0 (Nat.zero_le _) [] (by simp only [List.length_nil]; omega) ?_
   rw [List.drop_zero, List.nil_append, show wrap64 ((j : Int) + 1) = ((j + 1 : Nat) : Int) from by rw [w64 (by omega) (by omega)]; omega]
   exact somb o1 (Ev.bind o2 e1)
  ·rw [show wrap64 (((j + 1 : Nat) : Int) + 1) = ((j + 1 + 1 : Nat) : Int) from by rw [w64 (by omega) (by omega)]; omega]
   exact e2
theorem one_isB : IsB [(⟨0, 0⟩ : Cl)] := by
 have h : pd [(⟨0, 0⟩ : Cl)] (by decide) = [⟨0, 0⟩] := by
  rw [pd_sorted (by decide) (List.pairwise_singleton _ _)]
  rfl
 rw [← h]
 refine pd_isB (by decide) (by decide) (fun x hx => ?_) (by simp) (fun a ha x hx => ?_)
 ·rw [List.mem_singleton.1 hx]; exact ⟨⟨by decide, by decide⟩, by decide, by decide⟩
 ·rw [List.mem_singleton.1 ha, List.mem_singleton.1 hx]; exact Vr.base
theorem both (n : Int) : ∃ r, Ev (fun k => spec_CountBodies.f k n) r ∧ Ev (fun k => impl_CountBodies.f k n) r ∧ r.2.1 ≤ r.1 := by
 unfold spec_CountBodies.f impl_CountBodies.f
 by_cases h : 1 ≤ n ∧ n ≤ 6
 ·obtain ⟨m, rfl⟩ : ∃ m : Nat, n = ((m + 1 : Nat) : Int) := ⟨(n - 1).toNat, by omega⟩
  have v1 : Lv (0 + 1) [[(⟨0, 0⟩ : Cl)]] := ⟨fun b hb => by rw [List.mem_singleton.1 hb]; exact ⟨one_isB, rfl⟩⟩
  obtain ⟨r, T, e1, e2, e3, e4⟩ := rounds m 0 (by omega) [[⟨0, 0⟩]] [[⟨0, 0⟩]] v1 v1 (by simp) (by simp) (fun x => Iff.rfl) (by simp) (by simp) (by simp)
  rw [Nat.zero_add] at e1 e2
  refine ⟨r, somb (l1In_eq _ _ _) (ifp (decide_eq_true h) (Ev.bind ?_ e3)), somb (within_eq _ _ _) (ifp (decide_eq_true h) ?_), e4⟩
  ·unfold spec_l8All.f; exact e2
  ·rw [show wrap64 (((m + 1 : Nat) : Int) - 1) = (m : Int) from by rw [w64 (by omega) (by omega)]; omega]
   exact e1
 ·exact ⟨(0, 0, false), somb (l1In_eq _ _ _) (ifn (by rw [decide_eq_false h]; exact Bool.false_ne_true) (done rfl)), somb (within_eq _ _ _) (ifn (by rw [decide_eq_false h]; exact Bool.false_ne_true) (done rfl)), Int.le_refl _⟩
end Go.Proofs.YtckhmeadflafaaaGreat.PureCountB
