/- Rows and places that are drawn: each draw comes to a row of at most thirteen loads. No conditions beyond those of the lemmas' own hypotheses. -/
import Derived.Test.YtdbccenmfdjkjaaDraw
import Derived.Test.YtdbccenmfdjkjaaXFgx3
import Derived.Test.YtdbccenmfdjkjaaXFgx4
import Derived.Test.YtdbccenmfdjkjaaXFgx12
namespace Go.Proofs.Ytdbccenmfdjkjaa.PureDrawRow
open Go.RowKit Go.Proofs.Ytdbccenmfdjkjaa.XFg Go.Proofs.Ytdbccenmfdjkjaa.Plain Go.Proofs.Ytdbccenmfdjkjaa.PureDraw Go.Proofs.YtdbccenmfdjkjaaW.PrintWords Go.Proofs.YtdbccenmfdjkjaaW.PrintLast Go.Proofs.YtdbccenmfdjkjaaW.PrintMore
set_option linter.unusedVariables false
abbrev Dl := S41
theorem somx {α β : Type} {a : α} {o : Option α} {f : Nat → α → Option β} {r : β} (h : o = some a) (k : Ev (fun n => f n a) r) : Ev (fun n => o.bind (f n)) r := somb h k

theorem someRow_l1 {l : List Int} (a s : Int) : ∀ d : Nat, ∀ acc : List Dl, acc.length + d = 13 → ∃ r : List Dl, Ev (fun k => spec_l1Cur_someRow.l1 k acc l a s) (r, a, s) ∧ r.length ≤ 13 := by
  intro d
  induction d with
  | zero => intro acc h; exact ⟨acc, Ev.step (fun k => by simp only [spec_l1Cur_someRow.l1]; exact rfl) (ifn (by omega) (done rfl)), by omega⟩
  | succ d ih =>
    intro acc h
    obtain ⟨r, e, hr⟩ := ih (acc ++ [⟨5, 1⟩]) (by rw [List.length_append, List.length_singleton]; omega)
    exact ⟨r, Ev.step (fun k => by simp only [spec_l1Cur_someRow.l1]; exact rfl) (ifp (by omega) (ifp (by omega) e)), hr⟩
theorem someRow_end {l : List Int} (hl : Bytes l) (acc : List Dl) (hacc : acc.length ≤ 13) (n : Int) (hn : ¬ n > 0) (a s : Int) (h0 : 0 ≤ a) (h1 : a ≤ 4611686018427380000) : ∃ (r : List Dl) (a' s' : Int), Ev (fun k => spec_l1Cur_someRow.l0 k acc n l a s) (r, a', s') ∧ r.length ≤ 13 ∧ 0 ≤ a' ∧ a' ≤ a + 6 := by
  by_cases c : (acc.length : Int) > 0
  · obtain ⟨x, a1, s1, e1, _, b0, b1⟩ := pick_ev hl a s h0 (by omega) 60 (by omega)
    by_cases c0 : x = 0
    · obtain ⟨y, a2, s2, e2, ⟨y0, y1⟩, b2, b3⟩ := pick_ev hl a1 s1 (by omega) (by omega) (acc.length : Int) (by omega)
      obtain ⟨z, a3, s3, e3, _, b4, b5⟩ := among_ev hl a2 s2 (by omega) (by omega) [-1, 60, 61, 4611686018427387904] (by decide) (by decide)
      exact ⟨acc.set y.toNat ⟨z, (rd_T41 acc y).f1⟩, a3, s3, Ev.step (fun k => by simp only [spec_l1Cur_someRow.l0]; exact rfl) (ifn hn (ifp c (somx e1 (ifp c0 (somx e2 (somx e3 (ifp y0 (ifp (y1 (by omega)) (done rfl)))))))))
        , by rw [List.length_set]; exact hacc, by omega, by omega⟩
    · by_cases c1 : x = 1
      · obtain ⟨y, a2, s2, e2, ⟨y0, y1⟩, b2, b3⟩ := pick_ev hl a1 s1 (by omega) (by omega) (acc.length : Int) (by omega)
        obtain ⟨z, a3, s3, e3, _, b4, b5⟩ := among_ev hl a2 s2 (by omega) (by omega) [0, 99, 100, -1] (by decide) (by decide)
        exact ⟨acc.set y.toNat ⟨(rd_T41 acc y).f0, z⟩, a3, s3, Ev.step (fun k => by simp only [spec_l1Cur_someRow.l0]; exact rfl) (ifn hn (ifp c (somx e1 (ifn c0 (ifp c1 (somx e2 (somx e3 (ifp y0 (ifp (y1 (by omega)) (done rfl))))))))))
          , by rw [List.length_set]; exact hacc, by omega, by omega⟩
      · by_cases c2 : x = 2
        · obtain ⟨r, e, hr⟩ := someRow_l1 (l := l) a1 s1 (13 - acc.length) acc (by omega)
          exact ⟨r, a1, s1, Ev.step (fun k => by simp only [spec_l1Cur_someRow.l0]; exact rfl) (ifn hn (ifp c (somx e1 (ifn c0 (ifn c1 (ifp c2 e)))))), hr, by omega, by omega⟩
        · exact ⟨acc, a1, s1, Ev.step (fun k => by simp only [spec_l1Cur_someRow.l0]; exact rfl) (ifn hn (ifp c (somx e1 (ifn c0 (ifn c1 (ifn c2 (done rfl))))))), hacc, by omega, by omega⟩
  · exact ⟨acc, a, s, Ev.step (fun k => by simp only [spec_l1Cur_someRow.l0]; exact rfl) (ifn hn (ifn c (done rfl))), hacc, by omega, by omega⟩
theorem small_of {x : Int} {L : List Int} (h : x ∈ L) (m : Int) (hm : L.all (fun y => decide (y ≤ m)) = true) : x ≤ m := by
  have := List.all_eq_true.1 hm x h
  simpa using this
theorem someRow_l0 {l : List Int} (hl : Bytes l) : ∀ d : Nat, ∀ (n : Int), n.toNat = d → ∀ acc : List Dl, acc.length + d ≤ 13 → ∀ a s : Int, 0 ≤ a → a + 8 * (d : Int) ≤ 4611686018427380000 → ∃ (r : List Dl) (a' s' : Int), Ev (fun k => spec_l1Cur_someRow.l0 k acc n l a s) (r, a', s') ∧ r.length ≤ 13 ∧ 0 ≤ a' ∧ a' ≤ a + 8 * (d : Int) + 6 := by
  intro d
  induction d with
  | zero =>
    intro n hn acc hacc a s h0 h1
    obtain ⟨r, a', s', e, h2, h3, h4⟩ := someRow_end hl acc (by omega) n (by omega) a s h0 (by omega)
    exact ⟨r, a', s', e, h2, h3, by omega⟩
  | succ d ih =>
    intro n hn acc hacc a s h0 h1
    obtain ⟨x, a1, s1, e1, hx, b0, b1⟩ := among_ev hl a s h0 (by omega) [11, 11, 21, 61] (by decide) (by decide)
    obtain ⟨y, a2, s2, e2, _, b2, b3⟩ := pick_ev hl a1 s1 (by omega) (by omega) x (by have := small_of hx 61 (by decide); omega)
    obtain ⟨z, a3, s3, e3, hz, b4, b5⟩ := among_ev hl a2 s2 (by omega) (by omega) [3, 9, 30] (by decide) (by decide)
    obtain ⟨u, a4, s4, e4, _, b6, b7⟩ := pick_ev hl a3 s3 (by omega) (by omega) z (by have := small_of hz 30 (by decide); omega)
    have hw : wrap64 (n - 1) = n - 1 := w64 (by omega) (by omega)
    have hlim : acc.length < 8796093022208 := by omega
    obtain ⟨r, a', s', e, h2, h3, h4⟩ := ih (n - 1) (by omega) (acc ++ [⟨y, wrap64 (1 + u)⟩]) (by rw [List.length_append, List.length_singleton]; omega) a4 s4 (by omega) (by omega)
    refine ⟨r, a', s', Ev.step (fun k => by simp only [spec_l1Cur_someRow.l0]; exact rfl) (ifp (by omega) (somx e1 (somx e2 (somx e3 (somx e4 (ifp hlim ?_)))))), h2, h3, by omega⟩
    rw [hw]; exact e
theorem someRow_ev {l : List Int} (hl : Bytes l) (a s : Int) (h0 : 0 ≤ a) (h1 : a ≤ 4611686018427370000) (most : Int) : ∃ (r : List Dl) (a' s' : Int), Ev (fun k => spec_l1Cur_someRow.f k l a s most) (r, a', s') ∧ r.length ≤ 13 ∧ 0 ≤ a' ∧ a' ≤ a + 200 := by
  obtain ⟨x, a1, s1, e1, hx, b0, b1⟩ := among_ev hl a s h0 (by omega) [3, 2, 4, 1, 0, 6, 12] (by decide) (by decide)
  have hx12 := small_of hx 12 (by decide)
  unfold spec_l1Cur_someRow.f spec_l1Least.f
  by_cases c : x < most
  · obtain ⟨r, a', s', e, h2, h3, h4⟩ := someRow_l0 hl x.toNat x rfl [] (by simp only [List.length_nil]; omega) a1 s1 (by omega) (by omega)
    refine ⟨r, a', s', somx e1 ?_, h2, h3, by omega⟩
    rw [if_pos c]
    exact somx rfl e
  · obtain ⟨r, a', s', e, h2, h3, h4⟩ := someRow_l0 hl most.toNat most rfl [] (by simp only [List.length_nil]; omega) a1 s1 (by omega) (by omega)
    refine ⟨r, a', s', somx e1 ?_, h2, h3, by omega⟩
    rw [if_neg c]
    exact somx rfl e
theorem placeIn_ev {l : List Int} (hl : Bytes l) (a s : Int) (h0 : 0 ≤ a) (h1 : a ≤ 4611686018427370000) : ∃ x a' s' : Int, spec_l1Cur_placeIn.f l a s = some (x, a', s') ∧ 0 ≤ a' ∧ a' ≤ a + 6 := by
  obtain ⟨b, a1, s1, e1, b0, b1⟩ := one_ev hl a s h0 (by omega) 30 (by omega)
  unfold spec_l1Cur_placeIn.f
  rw [e1]
  cases b with
  | true =>
    obtain ⟨y, a2, s2, e2, _, b2, b3⟩ := among_ev hl a1 s1 (by omega) (by omega) [-1, 0, 60, 61, 4611686018427387904] (by decide) (by decide)
    refine ⟨y, a2, s2, ?_, by omega, by omega⟩
    simp only [Option.bind_some, if_true, e2]
  | false =>
    obtain ⟨y, a2, s2, e2, hy, b2, b3⟩ := among_ev hl a1 s1 (by omega) (by omega) [11, 11, 21, 61] (by decide) (by decide)
    obtain ⟨z, a3, s3, e3, _, b4, b5⟩ := pick_ev hl a2 s2 (by omega) (by omega) y (by have := small_of hy 61 (by decide); omega)
    refine ⟨z, a3, s3, ?_, by omega, by omega⟩
    simp only [Option.bind_some, Bool.false_eq_true, if_false, e2, e3]
theorem near9_l0 {l : List Int} (hl : Bytes l) : ∀ d : Nat, ∀ (n : Int), n.toNat = d → ∀ acc : List Dl, acc.length + d ≤ 13 → ∀ a s : Int, 0 ≤ a → a + 4 * (d : Int) ≤ 4611686018427380000 → ∃ (r : List Dl) (p a' s' : Int), Ev (fun k => spec_l1Cur_near9.l0 k acc n l a s) (r, p, a', s') ∧ r.length ≤ 13 ∧ 0 ≤ a' ∧ a' ≤ a + 4 * (d : Int) + 2 := by
  intro d
  induction d with
  | zero =>
    intro n hn acc hacc a s h0 h1
    obtain ⟨x, a1, s1, e1, _, b0, b1⟩ := pick_ev hl a s h0 (by omega) 5 (by omega)
    exact ⟨acc, _, a1, s1, Ev.step (fun k => by simp only [spec_l1Cur_near9.l0]; exact rfl) (ifn (by omega) (somx e1 (done rfl))), by omega, by omega, by omega⟩
  | succ d ih =>
    intro n hn acc hacc a s h0 h1
    obtain ⟨x, a1, s1, e1, _, b0, b1⟩ := pick_ev hl a s h0 (by omega) 7 (by omega)
    obtain ⟨y, a2, s2, e2, _, b2, b3⟩ := among_ev hl a1 s1 (by omega) (by omega) [1, 2, 3, 1, 4] (by decide) (by decide)
    have hw : wrap64 (n - 1) = n - 1 := w64 (by omega) (by omega)
    have hlim : acc.length < 8796093022208 := by omega
    obtain ⟨r, p, a', s', e, h2, h3, h4⟩ := ih (n - 1) (by omega) (acc ++ [⟨wrap64 (27 + x), y⟩]) (by rw [List.length_append, List.length_singleton]; omega) a2 s2 (by omega) (by omega)
    refine ⟨r, p, a', s', Ev.step (fun k => by simp only [spec_l1Cur_near9.l0]; exact rfl) (ifp (by omega) (somx e1 (somx e2 (ifp hlim ?_)))), h2, h3, by omega⟩
    rw [hw]; exact e
theorem near9_ev {l : List Int} (hl : Bytes l) (a s : Int) (h0 : 0 ≤ a) (h1 : a ≤ 4611686018427360000) (most : Int) : ∃ (r : List Dl) (p a' s' : Int), Ev (fun k => spec_l1Cur_near9.f k l a s most) (r, p, a', s') ∧ r.length ≤ 13 ∧ 0 ≤ a' ∧ a' ≤ a + 300 := by
  obtain ⟨b, a1, s1, e1, b0, b1⟩ := one_ev hl a s h0 (by omega) 6 (by omega)
  unfold spec_l1Cur_near9.f
  cases b with
  | true =>
    obtain ⟨r, a2, s2, e2, h2, h3, h4⟩ := someRow_ev hl a1 s1 (by omega) (by omega) most
    obtain ⟨p, a3, s3, e3, h5, h6⟩ := placeIn_ev hl a2 s2 h3 (by omega)
    exact ⟨r, p, a3, s3, somx e1 (ifp (Eq.refl true) (Ev.bind e2 (somx e3 (done rfl)))), h2, h5, by omega⟩
  | false =>
    obtain ⟨x, a2, s2, e2, hx, b2, b3⟩ := among_ev hl a1 s1 (by omega) (by omega) [4, 3, 5, 2, 6, 1, 0] (by decide) (by decide)
    have hx6 := small_of hx 6 (by decide)
    obtain ⟨r, p, a3, s3, e3, h2, h3, h4⟩ := near9_l0 hl x.toNat x rfl [] (by simp only [List.length_nil]; omega) a2 s2 (by omega) (by omega)
    exact ⟨r, p, a3, s3, somx e1 (ifn Bool.false_ne_true (somx e2 e3)), h2, h3, by omega⟩
theorem DrawCountZero_ev {l : List Int} (hl : Bytes l) : ∃ (r : List Dl) (p : Int), Ev (fun k => spec_DrawCountZero.f k l) (r, p) ∧ r.length ≤ 13 := by
  obtain ⟨r, p, a, s, e, h, _⟩ := near9_ev hl 0 0 (by omega) (by omega) 12
  unfold spec_DrawCountZero.f
  exact ⟨r, p, Ev.bind e (done rfl), h⟩
end Go.Proofs.Ytdbccenmfdjkjaa.PureDrawRow
