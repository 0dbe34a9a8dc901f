/- The plain law of FnExactMirrorBody. No conditions. -/
import Derived.Test.YtilhgalgnhlgdaaStatFnExactMirrorBody
import Derived.Test.YtilhgalgnhlgdaaPut
import Derived.Test.YtilhgalgnhlgdaaMarkCells
namespace Go.Proofs.Ytilhgalgnhlgdaa.fnExactMirrorBody
open Go.RowKit Go.Proofs.Ytilhgalgnhlgdaa.XAll Go.Proofs.Ytilhgalgnhlgdaa.Plain Go.Proofs.Ytilhgalgnhlgdaa.PureCells Go.Proofs.Ytilhgalgnhlgdaa.PureBody Go.Proofs.Ytilhgalgnhlgdaa.PurePut Go.Proofs.Ytilhgalgnhlgdaa.PureMarkCells Go.Proofs.YtilhgalgnhlgdaaW.PrintWords Go.Proofs.YtilhgalgnhlgdaaW.PrintLast Go.Proofs.YtilhgalgnhlgdaaW.PrintMore
set_option linter.unusedVariables false
def mir (x : Cl) : Cl := ⟨-x.f0, x.f1⟩
theorem mir_small {l : List Cl} (h : ∀ x ∈ l, InR x) : ∀ x ∈ l.map mir, Small x := by
  intro x hx
  obtain ⟨y, hy, rfl⟩ := List.mem_map.1 hx
  obtain ⟨⟨a, b⟩, c, d⟩ := h y hy
  refine ⟨⟨?_, ?_⟩, ?_, ?_⟩ <;> simp only [mir] <;> omega
theorem spec_loop (l : List Cl) (hn : l.length ≤ 12) (hr : ∀ x ∈ l, InR x) (r : List Cl) (e : Ev (fun k => spec_l8Down.f k (l.map mir)) r) : ∀ i, i ≤ l.length → ∀ acc, acc = (l.take i).map mir → Ev (fun k => spec_MirrorBody.l0 k l acc (i : Int)) (r, true) := by
  refine downTo l.length ?_ ?_
  · intro acc h
    rw [List.take_length] at h
    subst h
    exact Ev.step (fun k => by simp only [spec_MirrorBody.l0]; exact rfl) (ifn (by omega) (Ev.bind e (done rfl)))
  · intro i hi ih acc h
    have hal : acc.length = i := by rw [h, List.length_map, List.length_take]; omega
    obtain ⟨⟨x0, x1⟩, y0, y1⟩ := hr l[i] (List.getElem_mem hi)
    refine Ev.step (fun k => by simp only [spec_MirrorBody.l0]; exact rfl) (ifp (by omega) (ifp (by omega) (ifp (by omega) ?_)))
    rw [rdC hi, wrapS hi (by omega), w64 (x := -l[i].f0) (by omega) (by omega)]
    refine ih _ ?_
    rw [h, take_succ hi, List.map_append]
    rfl
theorem impl_loop (l : List Cl) (hn : l.length ≤ 12) (hr : ∀ x ∈ l, InR x) (r : List Cl) (e : Ev (fun k => impl_put.f k (l.map mir)) r) : ∀ i, i ≤ l.length → ∀ acc, acc = (l.take i).map mir → Ev (fun k => impl_cellsBy_MirrorBody_1.l0 k acc l (l.length : Int) (i : Int)) r := by
  refine downTo l.length ?_ ?_
  · intro acc h
    rw [List.take_length] at h
    subst h
    exact Ev.step (fun k => by simp only [impl_cellsBy_MirrorBody_1.l0]; exact rfl) (ifn (by omega) (Ev.bind e (done rfl)))
  · intro i hi ih acc h
    have hal : acc.length = i := by rw [h, List.length_map, List.length_take]; omega
    obtain ⟨⟨x0, x1⟩, y0, y1⟩ := hr l[i] (List.getElem_mem hi)
    refine Ev.step (fun k => by simp only [impl_cellsBy_MirrorBody_1.l0]; exact rfl) (ifp (by omega) (ifp (by omega) (ifp (by omega) ?_)))
    rw [rdC hi, wrapS hi (by omega)]
    refine somb (a := (-l[i].f0, l[i].f1)) ?_ (ifp (by omega) ?_)
    · unfold impl_MirrorBody_1.f
      rw [w64 (x := -l[i].f0) (by omega) (by omega)]
    · refine ih _ ?_
      rw [h, take_succ hi, List.map_append]
      rfl
theorem both (l : List Cl) (hn : l.length ≤ 1048576) : ∃ r : List Cl × Bool, Ev (fun k => spec_MirrorBody.f k l) r ∧ Ev (fun k => impl_MirrorBody.f k l) r ∧ r.1.length ≤ 1048576 := by
  obtain ⟨b, e1, e2, hv⟩ := isBody_ev l hn
  unfold spec_MirrorBody.f impl_MirrorBody.f
  cases b with
  | false => exact ⟨([], false), Ev.bind e1 (ifn Bool.false_ne_true (done rfl)), Ev.bind e2 (ifn Bool.false_ne_true (done rfl)), by simp⟩
  | true =>
    have v := hv rfl
    have hs := mir_small v.each
    have h0 : 0 < (l.map mir).length := by rw [List.length_map]; exact v.n0
    have n1 := v.n1
    have f1 := l8Down_ev (l.map mir) h0 (by rw [List.length_map]; omega) hs
    have f2 := put_ev (l.map mir) h0 (by rw [List.length_map]; omega) hs
    have g1 := spec_loop l v.n1 v.each _ f1 0 (Nat.zero_le _) [] rfl
    have g2 : Ev (fun k => impl_cellsBy_MirrorBody_1.f k l) (pd (l.map mir) h0) := impl_loop l v.n1 v.each _ f2 0 (Nat.zero_le _) [] rfl
    exact ⟨(pd (l.map mir) h0, true), Ev.bind e1 (ifp (Eq.refl true) g1), Ev.bind e2 (ifp (Eq.refl true) (Ev.bind g2 (done rfl))), by show (pd (l.map mir) h0).length ≤ 1048576; rw [pd_len, List.length_map]; omega⟩
theorem pure : Pure := by
  intro l hl _
  obtain ⟨t, ht, hlen⟩ := szIntA2S_eq l (by omega)
  refine Ev.rounds ?_
  unfold laws_FnExactMirrorBody.f
  refine somb ht (ifc (fun _ => done rfl) fun hneg => ?_)
  have hm := hlen hneg
  have hto := toIntA2S_ev l (by omega)
  have heq := eqIntA2S_ev l (by omega)
  obtain ⟨r, e1, e2, hr⟩ := both l hm
  have q := eqIntA2S_ev r.1 (by omega)
  obtain ⟨R1, m1, _, _⟩ := markIntA2S_ev l hm 1 (by omega) (by omega)
  obtain ⟨R3, m3, m3l, m3r⟩ := markIntA2S_ev r.1 (by omega) 1 (by omega) (by omega)
  have h3 := heldIntA2S_ev R3 r.1.length m3l (by omega) 1 (by omega) (by omega) m3r
  have hneg : ¬ (1 + ((2 * r.1.length : Nat) : Int)) < 0 := by omega
  have hneg2 : ¬ (1 + ((2 * l.length : Nat) : Int)) < 0 := by omega
  have last : Ev (fun k => laws_FnExactMirrorBody.j2 k R3 (1 + ((2 * r.1.length : Nat) : Int)) (r.2 != r.2)) true := by
    refine Ev.step (fun k => by simp only [laws_FnExactMirrorBody.j2]; exact rfl) (ifn (by simp) (Ev.bind h3 (ifn hneg ?_)))
    exact ifp rfl (done rfl)
  have mid : Ev (fun k => laws_FnExactMirrorBody.j1 k l r.1 r.2 r.1 (r.2 != r.2)) true := by
    refine Ev.step (fun k => by simp only [laws_FnExactMirrorBody.j1]; exact rfl) (ifn (by simp) (Ev.bind m3 (Ev.bind h3 (ifn hneg (ifp rfl (Ev.bind hto (Ev.bind e2 (Ev.bind q ?_))))))))
    exact ifp (Eq.refl true) last
  refine Ev.bind hto (Ev.bind e1 (Ev.bind hto (Ev.bind e2 (Ev.bind q (ifp (Eq.refl true) ?_)))))
  refine Ev.step (fun k => by simp only [laws_FnExactMirrorBody.j0]; exact rfl) (ifn (by simp) (Ev.bind hto (Ev.bind heq (ifp (Eq.refl true) (Ev.bind m1 (ifn hneg2 (Ev.bind q ?_)))))))
  exact ifp (Eq.refl true) mid
end Go.Proofs.Ytilhgalgnhlgdaa.fnExactMirrorBody
