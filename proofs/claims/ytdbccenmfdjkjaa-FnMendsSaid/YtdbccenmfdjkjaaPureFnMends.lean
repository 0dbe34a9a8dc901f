/- The plain law of FnMends: a move and a swap that are found make the moment 0 and leave the weight as it was. No conditions. -/
import Derived.Test.YtdbccenmfdjkjaaDrawRow
import Derived.Test.YtdbccenmfdjkjaaMend
import Derived.Test.YtdbccenmfdjkjaaXMex11
namespace Go.Proofs.Ytdbccenmfdjkjaa.Pure
open Go.RowKit Go.Proofs.Ytdbccenmfdjkjaa.XMe Go.Proofs.Ytdbccenmfdjkjaa.Plain Go.Proofs.Ytdbccenmfdjkjaa.PureDraw Go.Proofs.Ytdbccenmfdjkjaa.PureDrawRow Go.Proofs.Ytdbccenmfdjkjaa.PureRow Go.Proofs.Ytdbccenmfdjkjaa.PureMoment Go.Proofs.Ytdbccenmfdjkjaa.PureMend Go.Proofs.YtdbccenmfdjkjaaW.PrintWords Go.Proofs.YtdbccenmfdjkjaaW.PrintLast Go.Proofs.YtdbccenmfdjkjaaW.PrintMore
set_option linter.unusedVariables false
theorem MomentAbout_ok {l : List Ld} {p : Int} (hr : RowOK l = true) (hp : Pl p = true) : Ev (fun k => impl_MomentAbout.f k l p) (mom p l, true) := by
  have h := MomentAbout_ev l (by have := (rowV hr).n; omega) p
  rw [hr, hp] at h
  exact h
theorem pl_of {l : List Ld} (hr : RowOK l = true) {i : Nat} (hi : i < l.length) : Pl l[i].f0 = true := by
  have := (rowV hr).each l[i] (List.getElem_mem hi)
  unfold Pl; exact decide_eq_true ⟨this.1, this.2.1⟩
theorem FnMends : laws_FnMends.Pure := by
  intro l _ hl hb
  refine Ev.rounds ?_
  unfold laws_FnMends.f
  refine somb (vBig_eq l) (ifc (fun _ => done rfl) fun hbig => ?_)
  obtain ⟨row, p, e0, hlen⟩ := DrawOneMove_ev (bytes_of hb)
  obtain ⟨r, m1, m2, m3, m4⟩ := move_both row (by omega) p
  obtain ⟨q, s1, s2, s3, s4⟩ := swap_both row (by omega) p
  refine Ev.bind e0 (Ev.bind m2 (Ev.bind m1 (Ev.bind s2 (Ev.bind s1 (ifp rfl (ifp rfl (ifn (by simp) (ifp rfl (ifp rfl (ifn (by simp) ?_))))))))))
  have hlim : ([] : List Ld).length + row.length < 8796093022208 := by simp only [List.length_nil]; omega
  have tail : Ev (fun k => laws_FnMends.j0 k row p q.1 q.2.1 q.2.2) true := by
    refine Ev.step (fun k => by simp only [laws_FnMends.j0]; exact rfl) ?_
    cases hq : q.2.2 with
    | false => exact ifn Bool.false_ne_true (done rfl)
    | true =>
      obtain ⟨hr, hp⟩ := s3 hq
      obtain ⟨i, j, hi, hj, hij, e1, e2, hs⟩ := s4 hq
      rw [e1, e2]
      have hi0 : 0 ≤ (i : Int) := by omega
      have hj0 : 0 ≤ (j : Int) := by omega
      have hil : (i : Int) < (row.length : Int) := by omega
      have hjl : (j : Int) < (row.length : Int) := by omega
      refine ifp (Eq.refl true) (somb rfl (ifp hlim (somb rfl (ifp hj0 (ifp hjl (ifp hi0 ?_))))))
      rw [List.nil_append, rdL hi, rdL hj, Int.toNat_natCast, Int.toNat_natCast]
      refine ifp hil (somb rfl (ifp hil (ifp hjl (somb rfl ?_))))
      have hj2 : j < (row.set i ⟨row[j].f0, row[i].f1⟩).length := by rw [List.length_set]; exact hj
      have hg : (row.set i ⟨row[j].f0, row[i].f1⟩)[j] = row[j] := by rw [List.getElem_set_ne (by omega)]
      rw [rdL hj2]
      have o1 := ok_set hr hi (pl_of hr hj)
      have o2 := ok_set o1 hj2 (pl_of hr hi)
      have u1 := mom_set p row i hi row[j].f0
      have u2 := mom_set p _ j hj2 row[i].f0
      have v1 := wt_set row i hi row[j].f0
      have v2 := wt_set _ j hj2 row[i].f0
      rw [hg] at o2 u2 v2
      rw [hg]
      have w1 := WeightOf_ev row (by omega) hr
      have w2 := WeightOf_ev _ (by have := (rowV o2).n; omega) o2
      refine Ev.bind (MomentAbout_ok o2 hp) (Ev.bind w1 (Ev.bind w2 (ifp (Eq.refl true) (ifp (Eq.refl true) (ifp (Eq.refl true) (ifp ?_ (ifp ?_ (done ?_))))))))
      · show mom p _ = 0
        rw [u2, u1]
        have e : (row[i].f1 - row[j].f1) * (row[j].f0 - row[i].f0) = row[i].f1 * (row[j].f0 - row[i].f0) + row[j].f1 * (row[i].f0 - row[j].f0) := by
          rw [Int.sub_mul, show row[i].f0 - row[j].f0 = -(row[j].f0 - row[i].f0) from by omega, Int.mul_neg]
          omega
        omega
      · show wt row = wt _
        rw [v2, v1]
      · exact decide_eq_true (by omega)
  cases hm : r.2.2 with
  | false => exact ifn Bool.false_ne_true tail
  | true =>
    obtain ⟨hr, hp, h0⟩ := m3 hm
    obtain ⟨i, hi, e1, e2, e3, e4⟩ := m4 hm
    rw [e1]
    have hi0 : 0 ≤ (i : Int) := by omega
    have hil : (i : Int) < (row.length : Int) := by omega
    refine ifp (Eq.refl true) (somb rfl (ifp hlim (somb rfl (ifp hi0 ?_))))
    rw [List.nil_append, rdL hi, Int.toNat_natCast]
    have o1 := ok_set hr hi e4
    have u1 := mom_set p row i hi r.2.1
    have hd := Int.mul_tdiv_add_tmod (mom p row) row[i].f1
    refine ifp hil (Ev.bind (MomentAbout_ok o1 hp) (ifp (Eq.refl true) (ifp ?_ (ifn ?_ tail))))
    · show mom p _ = 0
      rw [u1, e3, show row[i].f0 - Int.tdiv (mom p row) row[i].f1 - row[i].f0 = -(Int.tdiv (mom p row) row[i].f1) from by omega, Int.mul_neg]
      omega
    · intro hc
      rw [e3] at hc
      have hz : Int.tdiv (mom p row) row[i].f1 = 0 := by omega
      rw [hz, e2] at hd
      simp at hd
      omega
end Go.Proofs.Ytdbccenmfdjkjaa.Pure
