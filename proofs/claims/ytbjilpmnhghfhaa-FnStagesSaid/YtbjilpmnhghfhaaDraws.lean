/- The reader of draws: each draw comes to an answer within its bounds. Stages, chains and kits that are drawn. No conditions beyond those of the lemmas' own hypotheses. -/
import Derived.Test.YtbjilpmnhghfhaaPlain
import Derived.Laws.BitsLemmas
import Derived.Test.YtbjilpmnhghfhaaXStx3
import Derived.Test.YtbjilpmnhghfhaaXStx8
import Derived.Test.YtbjilpmnhghfhaaXStx4
namespace Go.Proofs.Ytbjilpmnhghfhaa.PureDraw
open Go.RowKit Go.Proofs.Ytbjilpmnhghfhaa.XSt Go.Proofs.Ytbjilpmnhghfhaa.Plain Go.Proofs.YtbjilpmnhghfhaaW.PrintWords Go.Proofs.YtbjilpmnhghfhaaW.PrintLast Go.Proofs.YtbjilpmnhghfhaaW.PrintMore
set_option linter.unusedVariables false

/-- Whole numbers that are bytes. -/
def Bytes (l : List Int) : Prop := ∀ x ∈ l, 0 ≤ x ∧ x ≤ 255
theorem bytes_of {l : List Int} (h : ∀ x ∈ l, (Lit.int .u8 x).wf = true) : Bytes l := by
  intro x hx
  have := h x hx
  have hmin : IntKind.u8.min = 0 := rfl
  have hmax : IntKind.u8.max = 255 := rfl
  simp only [Lit.wf, Bool.and_eq_true, decide_eq_true_eq] at this
  omega
theorem u64_wrap (n : Int) : IntKind.u64.wrap n = n % 18446744073709551616 := by simp [IntKind.wrap, IntKind.bits, IntKind.signed]
theorem low_byte (n : Int) : 0 ≤ wrap64 (Go.bits .and .u64 (IntKind.u64.wrap n / 1099511627776) 255) ∧ wrap64 (Go.bits .and .u64 (IntKind.u64.wrap n / 1099511627776) 255) ≤ 255 := by
  have h0 : 0 ≤ IntKind.u64.wrap n / 1099511627776 ∧ IntKind.u64.wrap n / 1099511627776 < 2 ^ 63 := by rw [u64_wrap]; omega
  have hw : ∀ m : Int, 0 ≤ m → m < 2 ^ 63 → IntKind.u64.wrap m = m := by intro m a b; rw [u64_wrap]; omega
  have key := bits_mask .u64 63 (by decide) hw 8 (by decide) _ h0.1 h0.2
  have e : ((2 : Int) ^ 8 - 1) = 255 := by decide
  have e2 : ((2 : Int) ^ 8) = 256 := by decide
  generalize IntKind.u64.wrap n / 1099511627776 = y at *
  clear h0 hw
  first | rw [e, e2] at key | (simp only [Int.reducePow, Int.reduceSub] at key)
  rw [key]
  clear key e e2
  have : 0 ≤ y % 256 ∧ y % 256 < 256 := by omega
  rw [w64 (by omega) (by omega)]
  omega
theorem rd_byte {l : List Int} (h : Bytes l) (i : Int) : 0 ≤ rd l i ∧ rd l i ≤ 255 := by
  unfold rd
  rw [List.getD_eq_getElem?_getD]
  cases e : l[i.toNat]? with
  | none => simp
  | some x => exact h x (List.mem_of_getElem? e)
theorem next_ev {l : List Int} (hl : Bytes l) (a s : Int) (h0 : 0 ≤ a) (h1 : a ≤ 4611686018427387904) : ∃ x s', spec_l1Cur_next.f l a s = some (x, a + 1, s') ∧ 0 ≤ x ∧ x ≤ 255 := by
  have hw : wrap64 (a + 1) = a + 1 := w64 (by omega) (by omega)
  unfold spec_l1Cur_next.f
  rw [hw]
  by_cases c : a < (l.length : Int)
  · rw [if_pos c, if_pos h0, if_pos (by omega)]
    have hb := rd_byte hl a
    rw [w64 (x := rd l a) (by omega) (by omega)]
    exact ⟨_, _, rfl, hb⟩
  · rw [if_neg c, if_neg (by omega)]
    exact ⟨_, _, rfl, low_byte _⟩
theorem pick_ev {l : List Int} (hl : Bytes l) (a s : Int) (h0 : 0 ≤ a) (h1 : a ≤ 4611686018427387000) (n : Int) (hn : n ≤ 1000) : ∃ x a' s', spec_l1Cur_pick.f l a s n = some (x, a', s') ∧ (0 ≤ x ∧ (1 ≤ n → x < n)) ∧ a ≤ a' ∧ a' ≤ a + 2 := by
  unfold spec_l1Cur_pick.f
  by_cases c : n ≤ 1
  · rw [if_pos c]; exact ⟨0, a, s, rfl, ⟨by omega, by omega⟩, by omega, by omega⟩
  · rw [if_neg c]
    obtain ⟨x, s1, e1, x0, x1⟩ := next_ev hl a s h0 (by omega)
    rw [e1]
    simp only [Option.bind_some]
    by_cases c2 : n > 200
    · rw [if_pos c2]
      obtain ⟨y, s2, e2, y0, y1⟩ := next_ev hl (a + 1) s1 (by omega) (by omega)
      rw [e2]
      simp only [Option.bind_some]
      rw [if_neg (by omega)]
      have w1 : wrap64 (x * 256) = x * 256 := w64 (by omega) (by omega)
      have w2 : wrap64 (x * 256 + y) = x * 256 + y := w64 (by omega) (by omega)
      rw [w1, w2]
      refine ⟨_, _, _, rfl, ⟨Int.tmod_nonneg _ (by omega), fun _ => Int.tmod_lt_of_pos _ (by omega)⟩, by omega, by omega⟩
    · rw [if_neg c2, if_neg (by omega)]
      refine ⟨_, _, _, rfl, ⟨Int.tmod_nonneg _ (by omega), fun _ => Int.tmod_lt_of_pos _ (by omega)⟩, by omega, by omega⟩
theorem among_ev {l : List Int} (hl : Bytes l) (a s : Int) (h0 : 0 ≤ a) (h1 : a ≤ 4611686018427387000) (L : List Int) (hL : 0 < L.length) (hL2 : L.length ≤ 1000) : ∃ x a' s', spec_l1Cur_among.f l a s L = some (x, a', s') ∧ x ∈ L ∧ a ≤ a' ∧ a' ≤ a + 2 := by
  unfold spec_l1Cur_among.f
  obtain ⟨x, a', s', e, ⟨x0, x1⟩, h2, h3⟩ := pick_ev hl a s h0 h1 (L.length : Int) (by omega)
  have x2 := x1 (by omega)
  rw [e]
  simp only [Option.bind_some]
  rw [if_pos x0, if_pos x2]
  refine ⟨_, _, _, rfl, ?_, h2, h3⟩
  obtain ⟨m, rfl⟩ := Int.eq_ofNat_of_zero_le x0
  have hm : m < L.length := by omega
  rw [rd_lt hm]
  exact List.getElem_mem hm
theorem one_ev {l : List Int} (hl : Bytes l) (a s : Int) (h0 : 0 ≤ a) (h1 : a ≤ 4611686018427387000) (n : Int) (hn : n ≤ 1000) : ∃ b a' s', spec_l1Cur_one.f l a s n = some (b, a', s') ∧ a ≤ a' ∧ a' ≤ a + 2 := by
  unfold spec_l1Cur_one.f
  obtain ⟨x, a', s', e, _, h2, h3⟩ := pick_ev hl a s h0 h1 n hn
  rw [e]
  exact ⟨_, _, _, rfl, h2, h3⟩
theorem vBig_eq (l : List Int) : laws_vBig.f l = some (decide (l.length > 65536)) := by
  unfold laws_vBig.f
  congr 1
  simp only [decide_eq_decide]
  omega
theorem vCut_ev {l : List Int} (hl : Bytes l) (hn : l.length ≤ 65536) (n : Int) (h0 : 0 ≤ n) : ∃ c, laws_vCut.f l n = some c ∧ Bytes c ∧ c.length ≤ 65537 := by
  unfold laws_vCut.f
  rw [if_pos h0, if_pos (by omega)]
  refine ⟨_, rfl, ?_, ?_⟩
  · intro x hx
    rcases List.mem_append.1 hx with hx | hx
    · exact hl x (List.mem_of_mem_drop hx)
    · rw [List.mem_singleton] at hx; subst hx; omega
  · rw [List.length_append, List.length_drop, List.length_singleton]; omega
end Go.Proofs.Ytbjilpmnhghfhaa.PureDraw
namespace Go.Proofs.Ytbjilpmnhghfhaa.PureDrawStage
open Go.RowKit Go.Proofs.Ytbjilpmnhghfhaa.XSt Go.Proofs.Ytbjilpmnhghfhaa.Plain Go.Proofs.Ytbjilpmnhghfhaa.PureDraw Go.Proofs.YtbjilpmnhghfhaaW.PrintWords Go.Proofs.YtbjilpmnhghfhaaW.PrintLast Go.Proofs.YtbjilpmnhghfhaaW.PrintMore
set_option linter.unusedVariables false
abbrev Ds := S37
theorem somx {α β : Type} {a : α} {o : Option α} {f : Nat → α → Option β} {r : β} (h : o = some a) (k : Ev (fun n => f n a) r) : Ev (fun n => o.bind (f n)) r := somb h k
theorem small_of {x : Int} {L : List Int} (h : x ∈ L) (m : Int) (hm : L.all (fun y => decide (y ≤ m)) = true) : x ≤ m := by
  have := List.all_eq_true.1 hm x h
  simpa using this
theorem stage7_j0 {l : List Int} (hl : Bytes l) (a s : Int) (h0 : 0 ≤ a) (h1 : a ≤ 4611686018427380000) (x y z : Int) : ∃ x2 y2 z2 a' s' : Int, Ev (fun k => spec_l1Cur_stage7.j0 k l a s x y z) (x2, y2, z2, a', s') ∧ 0 ≤ a' ∧ a' ≤ a + 4 := by
  obtain ⟨n, a1, s1, e1, _, b0, b1⟩ := pick_ev hl a s h0 (by omega) 40 (by omega)
  by_cases c0 : n = 0
  · obtain ⟨u, a2, s2, e2, _, b2, b3⟩ := among_ev hl a1 s1 (by omega) (by omega) [0, -1, 24, 25] (by decide) (by decide)
    refine ⟨x, u, z, a2, s2, Ev.step (fun k => by simp only [spec_l1Cur_stage7.j0]; exact rfl) (somx e1 (ifp c0 (somx e2 ?_))), by omega, by omega⟩
    exact done rfl
  · by_cases c1 : n = 1
    · obtain ⟨u, a2, s2, e2, _, b2, b3⟩ := among_ev hl a1 s1 (by omega) (by omega) [0, 24, 25, -1] (by decide) (by decide)
      refine ⟨x, y, u, a2, s2, Ev.step (fun k => by simp only [spec_l1Cur_stage7.j0]; exact rfl) (somx e1 (ifn c0 (ifp c1 (somx e2 ?_)))), by omega, by omega⟩
      exact done rfl
    · by_cases c2 : n = 2
      · obtain ⟨u, a2, s2, e2, _, b2, b3⟩ := among_ev hl a1 s1 (by omega) (by omega) [0, 6, -1] (by decide) (by decide)
        refine ⟨u, y, z, a2, s2, Ev.step (fun k => by simp only [spec_l1Cur_stage7.j0]; exact rfl) (somx e1 (ifn c0 (ifn c1 (ifp c2 (somx e2 ?_))))), by omega, by omega⟩
        exact done rfl
      · exact ⟨x, y, z, a1, s1, Ev.step (fun k => by simp only [spec_l1Cur_stage7.j0]; exact rfl) (somx e1 (ifn c0 (ifn c1 (ifn c2 (done rfl))))), by omega, by omega⟩
theorem stage7_ev {l : List Int} (hl : Bytes l) (a s : Int) (h0 : 0 ≤ a) (h1 : a ≤ 4611686018427370000) : ∃ x y z a' s' : Int, Ev (fun k => spec_l1Cur_stage7.f k l a s) (x, y, z, a', s') ∧ 0 ≤ a' ∧ a' ≤ a + 10 := by
  obtain ⟨x, a1, s1, e1, _, b0, b1⟩ := among_ev hl a s h0 (by omega) [1, 2, 3, 4, 5] (by decide) (by decide)
  obtain ⟨y, a2, s2, e2, _, b2, b3⟩ := pick_ev hl a1 s1 (by omega) (by omega) 6 (by omega)
  obtain ⟨z, a3, s3, e3, _, b4, b5⟩ := pick_ev hl a2 s2 (by omega) (by omega) 4 (by omega)
  unfold spec_l1Cur_stage7.f
  have go : ∀ u v w : Int, ∃ x2 y2 z2 a' s' : Int, Ev (fun k => spec_l1Cur_stage7.j0 k l a3 s3 u v w) (x2, y2, z2, a', s') ∧ 0 ≤ a' ∧ a' ≤ a3 + 4 := fun u v w => stage7_j0 hl a3 s3 (by omega) (by omega) u v w
  by_cases c2 : x = 2
  · obtain ⟨x2, y2, z2, a4, s4, e, p0, p1⟩ := go x (wrap64 (1 + y)) 0
    exact ⟨x2, y2, z2, a4, s4, somx e1 (somx e2 (somx e3 (ifp c2 e))), p0, by omega⟩
  · by_cases c4 : x = 4
    · unfold spec_l1Most.f
      by_cases cm : wrap64 (1 + y) > wrap64 (1 + z)
      · obtain ⟨x2, y2, z2, a4, s4, e, p0, p1⟩ := go x (wrap64 (1 + y)) (wrap64 (1 + z))
        exact ⟨x2, y2, z2, a4, s4, somx e1 (somx e2 (somx e3 (ifn c2 (ifp c4 (somx (if_pos cm) e))))), p0, by omega⟩
      · obtain ⟨x2, y2, z2, a4, s4, e, p0, p1⟩ := go x (wrap64 (1 + z)) (wrap64 (1 + z))
        exact ⟨x2, y2, z2, a4, s4, somx e1 (somx e2 (somx e3 (ifn c2 (ifp c4 (somx (if_neg cm) e))))), p0, by omega⟩
    · by_cases c5 : x = 5
      · obtain ⟨x2, y2, z2, a4, s4, e, p0, p1⟩ := go x (wrap64 ((wrap64 (1 + z)) + (wrap64 (1 + y)))) (wrap64 (1 + z))
        exact ⟨x2, y2, z2, a4, s4, somx e1 (somx e2 (somx e3 (ifn c2 (ifn c4 (ifp c5 e))))), p0, by omega⟩
      · obtain ⟨x2, y2, z2, a4, s4, e, p0, p1⟩ := go x (wrap64 (1 + y)) (wrap64 (1 + z))
        exact ⟨x2, y2, z2, a4, s4, somx e1 (somx e2 (somx e3 (ifn c2 (ifn c4 (ifn c5 e))))), p0, by omega⟩
theorem DrawIsStage_ev {l : List Int} (hl : Bytes l) : ∃ x y z : Int, Ev (fun k => spec_DrawIsStage.f k l) (x, y, z) := by
  obtain ⟨x, y, z, a, s, e, _⟩ := stage7_ev hl 0 0 (by omega) (by omega)
  unfold spec_DrawIsStage.f
  exact ⟨x, y, z, Ev.bind e (done rfl)⟩
theorem DrawTurnStage_ev {l : List Int} (hl : Bytes l) : ∃ x y z : Int, Ev (fun k => spec_DrawTurnStage.f k l) (x, y, z) := by
  obtain ⟨x, y, z, e⟩ := DrawIsStage_ev hl
  unfold spec_DrawTurnStage.f
  exact ⟨x, y, z, Ev.bind e (done rfl)⟩
theorem kit7_l1 {l : List Int} (a s : Int) : ∀ d : Nat, ∀ acc : List Ds, acc.length + d = 9 → ∃ r : List Ds, Ev (fun k => spec_l1Cur_kit7.l1 k acc l a s) (r, a, s) ∧ r.length ≤ 9 := by
  intro d
  induction d with
  | zero => intro acc h; exact ⟨acc, Ev.step (fun k => by simp only [spec_l1Cur_kit7.l1]; exact rfl) (ifn (by omega) (done rfl)), by omega⟩
  | succ d ih =>
    intro acc h
    obtain ⟨r, e, hr⟩ := ih (acc ++ [⟨2, 1, 0⟩]) (by rw [List.length_append, List.length_singleton]; omega)
    exact ⟨r, Ev.step (fun k => by simp only [spec_l1Cur_kit7.l1]; exact rfl) (ifp (by omega) (ifp (by omega) e)), hr⟩
theorem kit7_l0 {l : List Int} (hl : Bytes l) : ∀ d : Nat, ∀ (n : Int), n.toNat = d → ∀ acc : List Ds, acc.length + d ≤ 9 → ∀ a s : Int, 0 ≤ a → a + 10 * (d : Int) ≤ 4611686018427370000 → ∃ (r : List Ds) (a' s' : Int), Ev (fun k => spec_l1Cur_kit7.l0 k acc n l a s) (r, a', s') ∧ r.length ≤ 9 ∧ 0 ≤ a' ∧ a' ≤ a + 10 * (d : Int) + 4 := by
  intro d
  induction d with
  | zero =>
    intro n hn acc hacc a s h0 h1
    obtain ⟨b, a1, s1, e1, b0, b1⟩ := one_ev hl a s h0 (by omega) 30 (by omega)
    cases b with
    | true =>
      obtain ⟨r, e, hr⟩ := kit7_l1 (l := l) a1 s1 (9 - acc.length) acc (by omega)
      exact ⟨r, a1, s1, Ev.step (fun k => by simp only [spec_l1Cur_kit7.l0]; exact rfl) (ifn (by omega) (somx e1 (ifp (Eq.refl true) e))), hr, by omega, by omega⟩
    | false => exact ⟨acc, a1, s1, Ev.step (fun k => by simp only [spec_l1Cur_kit7.l0]; exact rfl) (ifn (by omega) (somx e1 (ifn Bool.false_ne_true (done rfl)))), by omega, by omega, by omega⟩
  | succ d ih =>
    intro n hn acc hacc a s h0 h1
    obtain ⟨x, y, z, a1, s1, e1, b0, b1⟩ := stage7_ev hl a s h0 (by omega)
    have hw : wrap64 (n - 1) = n - 1 := w64 (by omega) (by omega)
    have hlim : acc.length < 5864062014805 := by omega
    obtain ⟨r, a', s', e, h2, h3, h4⟩ := ih (n - 1) (by omega) (acc ++ [⟨x, y, z⟩]) (by rw [List.length_append, List.length_singleton]; omega) a1 s1 (by omega) (by omega)
    refine ⟨r, a', s', Ev.step (fun k => by simp only [spec_l1Cur_kit7.l0]; exact rfl) (ifp (by omega) (Ev.bind e1 (ifp hlim ?_))), h2, h3, by omega⟩
    rw [hw]; exact e
theorem kit7_ev {l : List Int} (hl : Bytes l) (a s : Int) (h0 : 0 ≤ a) (h1 : a ≤ 4611686018427360000) : ∃ (r : List Ds) (a' s' : Int), Ev (fun k => spec_l1Cur_kit7.f k l a s) (r, a', s') ∧ r.length ≤ 9 ∧ 0 ≤ a' ∧ a' ≤ a + 100 := by
  obtain ⟨x, a1, s1, e1, hx, b0, b1⟩ := among_ev hl a s h0 (by omega) [4, 3, 5, 2, 6, 0] (by decide) (by decide)
  have hx6 := small_of hx 6 (by decide)
  unfold spec_l1Cur_kit7.f
  obtain ⟨r, a', s', e, h2, h3, h4⟩ := kit7_l0 hl x.toNat x rfl [] (by simp only [List.length_nil]; omega) a1 s1 (by omega) (by omega)
  exact ⟨r, a', s', somx e1 e, h2, h3, by omega⟩
theorem DrawReachGain_ev {l : List Int} (hl : Bytes l) : ∃ (r : List Ds) (g : Int), Ev (fun k => spec_DrawReachGain.f k l) (r, g) ∧ r.length ≤ 9 := by
  obtain ⟨r, a1, s1, e1, h1, h2, h3⟩ := kit7_ev hl 0 0 (by omega) (by omega)
  obtain ⟨x, a2, s2, e2, _⟩ := among_ev hl a1 s1 (by omega) (by omega) [2, 3, 5, 8, 12, 1, 40, 1000, 0, 1000001] (by decide) (by decide)
  unfold spec_DrawReachGain.f
  refine ⟨r, x, Ev.bind e1 (somx e2 ?_), h1⟩
  exact done rfl
end Go.Proofs.Ytbjilpmnhghfhaa.PureDrawStage
