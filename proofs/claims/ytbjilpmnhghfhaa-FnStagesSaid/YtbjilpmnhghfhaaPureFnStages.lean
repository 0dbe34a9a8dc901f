/- The plain law of FnStages: a turned stage has the turned gain, and the fewest stages for a gain have it, and no fewer. No conditions. -/
import Derived.Test.YtbjilpmnhghfhaaDraws
import Derived.Test.YtbjilpmnhghfhaaGains
import Derived.Test.YtbjilpmnhghfhaaXStx19
namespace Go.Proofs.Ytbjilpmnhghfhaa.Pure
open Go.RowKit Go.Proofs.Ytbjilpmnhghfhaa.XSt Go.Proofs.Ytbjilpmnhghfhaa.Plain Go.Proofs.Ytbjilpmnhghfhaa.PureDraw Go.Proofs.Ytbjilpmnhghfhaa.PureDrawStage Go.Proofs.Ytbjilpmnhghfhaa.PureStage Go.Proofs.Ytbjilpmnhghfhaa.PureLowest Go.Proofs.Ytbjilpmnhghfhaa.PureChoices Go.Proofs.Ytbjilpmnhghfhaa.PureStages2 Go.Proofs.Ytbjilpmnhghfhaa.PureFew Go.Proofs.YtbjilpmnhghfhaaW.PrintWords Go.Proofs.YtbjilpmnhghfhaaW.PrintLast Go.Proofs.YtbjilpmnhghfhaaW.PrintMore
set_option linter.unusedVariables false
theorem j5_end {kit : List St} {g : Int} {q : List Int} (e : ReachSay kit g q) (i : Int) : Ev (fun k => laws_FnStages.j5 k kit g q i false) true := by
  refine Ev.step (fun k => by simp only [laws_FnStages.j5]; exact rfl) (ifn Bool.false_ne_true (ifc (fun _ => done rfl) fun h => done ?_))
  have := unit e h
  rw [this]; rfl
theorem l2_ev {kit : List St} {g : Int} {q : List Int} (e : ReachSay kit g q) : ∀ i, i ≤ kit.length → Ev (fun k => laws_FnStages.l2 k kit g q (i : Int)) true := by
  have hn := e.k.n
  refine downTo kit.length ?_ ?_
  · refine Ev.step (fun k => by simp only [laws_FnStages.l2]; exact rfl) (ifc (fun _ => ?_) fun _ => j5_end e _)
    rw [decide_eq_false (by omega)]; exact j5_end e _
  · intro i hi ih
    refine Ev.step (fun k => by simp only [laws_FnStages.l2]; exact rfl) (ifc (fun h => ?_) fun _ => j5_end e _)
    rw [decide_eq_true (show (i : Int) < (kit.length : Int) by omega)]
    have hs := single e (show 1 < q.length by omega) hi
    have hok := e.k.each kit[i] (List.getElem_mem hi)
    obtain ⟨_, s3, s4⟩ := sg_range hok
    have m := mul_le e.k.g0 e.k.g1 s3 s4
    have hsg : SG kit[i] = ((sg kit[i]).1, (sg kit[i]).2, true) := by unfold SG; rw [if_pos hok]
    have e1 := iStageGain_ev kit[i]
    rw [hsg] at e1
    have hi0 : 0 ≤ (i : Int) := by omega
    have hil : (i : Int) < (kit.length : Int) := by omega
    refine Ev.step (fun k => by simp only [laws_FnStages.j5]; exact rfl) (ifp (Eq.refl true) (ifp hi0 (ifp hil ?_)))
    rw [rdS hi]
    refine Ev.bind e1 (ifp (Eq.refl true) ?_)
    show Ev (fun k => if (sg kit[i]).1 ≥ wrap64 (g * (sg kit[i]).2) then none else _) true
    rw [w64 (x := g * (sg kit[i]).2) (by omega) (by omega), wrapS hi (by omega)]
    exact ifn hs ih
theorem l1_ev {kit : List St} {g : Int} {q : List Int} (e : ReachSay kit g q) : ∀ i, i ≤ q.length → Ev (fun k => laws_FnStages.l1 k kit g q (PureGainReach.pk kit (q.take i)) (i : Int)) true := by
  have hn := e.len
  have v := PureGainReach.pk_V e.k.each e.val e.len
  refine downTo q.length ?_ ?_
  · refine Ev.step (fun k => by simp only [laws_FnStages.l1]; exact rfl) (ifn (by omega) ?_)
    rw [List.take_length]
    refine Ev.bind (iChainGain_ev v) (ifp (Eq.refl true) ?_)
    show Ev (fun k => if (cg (PureGainReach.pk kit q)).1 < wrap64 (g * (cg (PureGainReach.pk kit q)).2) then none else _) true
    rw [prod_small e.k v]
    have := e.gain
    exact ifn (by omega) (l2_ev e 0 (Nat.zero_le _))
  · intro i hi ih
    obtain ⟨h0, h1⟩ := e.val q[i] (List.getElem_mem hi)
    have hl : (PureGainReach.pk kit (q.take i)).length = i := by unfold PureGainReach.pk; rw [List.length_map, List.length_take]; omega
    refine Ev.step (fun k => by simp only [laws_FnStages.l1]; exact rfl) (ifp (by omega) (ifp (by omega) ?_))
    rw [rd_lt hi]
    refine ifp h0 (ifp h1 (ifp (by omega) ?_))
    rw [wrapS hi (by omega)]
    rw [take_succ hi] at ih
    unfold PureGainReach.pk at ih ⊢
    rw [List.map_append] at ih
    exact ih
theorem j2_ev {kit : List St} {g : Int} {r : List Int × Bool} (e : PureGainReach.few g kit = r) : Ev (fun k => laws_FnStages.j2 k kit g r.1 r.2) true := by
  refine Ev.step (fun k => by simp only [laws_FnStages.j2]; exact rfl) ?_
  cases h : r.2 with
  | false => exact ifn Bool.false_ne_true (done rfl)
  | true => exact ifp (Eq.refl true) (l1_ev (reach_say e h) 0 (Nat.zero_le _))
theorem l0_ev {kit : List St} {g : Int} {r : List Int × Bool} {q : List Int} (er : PureGainReach.few g kit = r) (e : ExactSay kit g q) : ∀ i, i ≤ q.length → Ev (fun k => laws_FnStages.l0 k kit g r.1 r.2 q (PureGainReach.pk kit (q.take i)) (i : Int)) true := by
  have hn := e.len
  have v := PureGainReach.pk_V e.k.each e.val e.len
  refine downTo q.length ?_ ?_
  · refine Ev.step (fun k => by simp only [laws_FnStages.l0]; exact rfl) (ifn (by omega) ?_)
    rw [List.take_length]
    have e1 := iChainGain_ev v
    rw [exact_gain e] at e1
    obtain ⟨b1, b2⟩ := both_say e
    rw [er] at b1 b2
    refine Ev.bind e1 (ifp (Eq.refl true) (ifn (by simp) (ifp b1 (ifn (by omega) (j2_ev er)))))
  · intro i hi ih
    obtain ⟨h0, h1⟩ := e.val q[i] (List.getElem_mem hi)
    have hl : (PureGainReach.pk kit (q.take i)).length = i := by unfold PureGainReach.pk; rw [List.length_map, List.length_take]; omega
    refine Ev.step (fun k => by simp only [laws_FnStages.l0]; exact rfl) (ifp (by omega) (ifp (by omega) ?_))
    rw [rd_lt hi]
    refine ifp h0 (ifp h1 (ifp (by omega) ?_))
    rw [wrapS hi (by omega)]
    rw [take_succ hi] at ih
    unfold PureGainReach.pk at ih ⊢
    rw [List.map_append] at ih
    exact ih
theorem j0_ev {kit : List St} {g : Int} {r x : List Int × Bool} (er : PureGainReach.few g kit = r) (ex : PureGainExact.few g kit = x) : Ev (fun k => laws_FnStages.j0 k kit g r.1 r.2 x.1 x.2) true := by
  refine Ev.step (fun k => by simp only [laws_FnStages.j0]; exact rfl) ?_
  cases h : x.2 with
  | false => exact ifn Bool.false_ne_true (j2_ev er)
  | true => exact ifp (Eq.refl true) (l0_ev er (exact_say ex h) 0 (Nat.zero_le _))
theorem FnStages : laws_FnStages.Pure := by
  intro l _ hl hb
  refine Ev.rounds ?_
  unfold laws_FnStages.f
  refine somb (vBig_eq l) (ifc (fun _ => done rfl) fun hbig => ?_)
  have hbig2 : ¬ l.length > 65536 := by simpa using hbig
  obtain ⟨x, y, z, e0⟩ := DrawTurnStage_ev (bytes_of hb)
  obtain ⟨c, hc, hcb, hcl⟩ := vCut_ev (bytes_of hb) (by omega) 1 (by omega)
  obtain ⟨kit, g, e1, hk⟩ := DrawReachGain_ev hcb
  have t1 := iTurn_ev ⟨x, y, z⟩
  have t2 := sTurn_ev ⟨x, y, z⟩
  have g1 := iStageGain_ev ⟨x, y, z⟩
  have g2 := sStageGain_ev ⟨x, y, z⟩
  have r1 := PureGainReach.impl_ev kit (by omega) g
  have r2 := PureGainReach.spec_ev kit (by omega) g
  have x1 := PureGainExact.impl_ev kit (by omega) g
  have x2 := PureGainExact.spec_ev kit (by omega) g
  have rl := PureGainReach.few_len g kit
  have xl := PureGainExact.few_len g kit
  have last := j0_ev (kit := kit) (g := g) rfl rfl
  have v1 := vInts_ev (PureGainReach.few g kit).1 (by omega)
  have v2 := vInts_ev (PureGainExact.few g kit).1 (by omega)
  have i1 := IsStage_ev x y z
  have i2 := sIsStage_ev ⟨x, y, z⟩
  have hsg : (SG ⟨x, y, z⟩).2.2 = OK ⟨x, y, z⟩ := by unfold SG; cases h : OK ⟨x, y, z⟩ <;> rfl
  generalize PureGainReach.few g kit = R at *
  generalize PureGainExact.few g kit = X at *
  refine Ev.bind e0 (Ev.bind t1 (Ev.bind t2 (Ev.bind g1 (Ev.bind g2 (somb hc (Ev.bind e1 (Ev.bind r1 (Ev.bind r2 (Ev.bind x1 (Ev.bind x2 ?_))))))))))
  refine ifn (by simp) (ifn (by simp) (ifn (by simp) (ifn (by simp) (ifn (by simp) (Ev.bind v1 (ifp (Eq.refl true) (ifn (by simp) (Ev.bind v2 (ifp (Eq.refl true) (Ev.bind i1 (Ev.bind i2 ?_)))))))))))
  refine ifn (by show ¬ ((StOK x y z != OK ⟨x, y, z⟩) = true); simp [OK]) (Ev.bind i1 (ifn (by show ¬ (((SG ⟨x, y, z⟩).2.2 != StOK x y z) = true); rw [hsg]; simp [OK]) ?_))
  show Ev (fun k => if (TS ⟨x, y, z⟩).2.2.2 = true then _ else _) true
  cases ht : (TS ⟨x, y, z⟩).2.2.2 with
  | false => exact ifn Bool.false_ne_true last
  | true =>
    obtain ⟨o1, o2, o3, o4⟩ := turn_say ht
    have g3 := iStageGain_ev ⟨x, z, y⟩
    have s1 : SG ⟨x, z, y⟩ = ((sg ⟨x, y, z⟩).2, (sg ⟨x, y, z⟩).1, true) := by unfold SG; rw [if_pos o3, o4]
    have s2 : SG ⟨x, y, z⟩ = ((sg ⟨x, y, z⟩).1, (sg ⟨x, y, z⟩).2, true) := by unfold SG; rw [if_pos o1]
    rw [s1] at g3
    rw [o2, s2]
    exact ifp (Eq.refl true) (Ev.bind g3 (ifp (Eq.refl true) (ifn (by simp) last)))
end Go.Proofs.Ytbjilpmnhghfhaa.Pure
