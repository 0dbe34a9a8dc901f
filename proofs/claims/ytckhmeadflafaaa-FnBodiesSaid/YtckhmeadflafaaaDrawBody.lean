/- The draws of bodies: each comes to an answer, of at most 13 cells. No conditions beyond those of the lemmas' own hypotheses. -/
import Derived.Test.YtckhmeadflafaaaPlain
import Derived.Laws.BitsLemmas
import Derived.Test.YtckhmeadflafaaaXFbx2
import Derived.Test.YtckhmeadflafaaaXFbx27
import Derived.Test.YtckhmeadflafaaaCells
import Derived.Test.YtckhmeadflafaaaXFbx3
import Derived.Test.YtckhmeadflafaaaBody
import Derived.Test.YtckhmeadflafaaaPut
import Derived.Test.YtckhmeadflafaaaLoose
import Derived.Test.YtckhmeadflafaaaReach
import Derived.Test.YtckhmeadflafaaaXFbx7
import Derived.Test.YtckhmeadflafaaaXFbx8
import Derived.Test.YtckhmeadflafaaaXFbx26
import Derived.Test.YtckhmeadflafaaaXFbx28
/-! The reader of draws: each draw comes to an answer within its bounds. No conditions beyond those of the lemmas' own hypotheses. -/
namespace Go.Proofs.Ytckhmeadflafaaa.PureDraw
open Go.RowKit Go.Proofs.Ytckhmeadflafaaa.XFb Go.Proofs.Ytckhmeadflafaaa.Plain Go.Proofs.YtckhmeadflafaaaW.PrintWords Go.Proofs.YtckhmeadflafaaaW.PrintLast Go.Proofs.YtckhmeadflafaaaW.PrintMore
set_option linter.unusedVariables false

/-- Whole numbers that are bytes. -/
def Bytes (l : List Int) : Prop := ∀ x ∈ l, 0 ≤ x ∧ x ≤ 255
theorem bytes_of {l : List Int} (h : ∀ x ∈ l, (Lit.int .u8 x).wf = true) : Bytes l := by
  intro x hx
  have := h x hx
  have hmin : IntKind.u8.min = 0 := rfl
  have hmax : IntKind.u8.max = 255 := rfl
  simp only [Lit.wf, Bool.and_eq_true, decide_eq_true_eq] at this
  omega
theorem u64_wrap (n : Int) : IntKind.u64.wrap n = n % 18446744073709551616 := by simp [IntKind.wrap, IntKind.bits, IntKind.signed]
theorem low_byte (n : Int) : 0 ≤ wrap64 (Go.bits .and .u64 (IntKind.u64.wrap n / 1099511627776) 255) ∧ wrap64 (Go.bits .and .u64 (IntKind.u64.wrap n / 1099511627776) 255) ≤ 255 := by
  have h0 : 0 ≤ IntKind.u64.wrap n / 1099511627776 ∧ IntKind.u64.wrap n / 1099511627776 < 2 ^ 63 := by rw [u64_wrap]; omega
  have hw : ∀ m : Int, 0 ≤ m → m < 2 ^ 63 → IntKind.u64.wrap m = m := by intro m a b; rw [u64_wrap]; omega
  have key := bits_mask .u64 63 (by decide) hw 8 (by decide) _ h0.1 h0.2
  have e : ((2 : Int) ^ 8 - 1) = 255 := by decide
  have e2 : ((2 : Int) ^ 8) = 256 := by decide
  generalize IntKind.u64.wrap n / 1099511627776 = y at *
  clear h0 hw
  first | rw [e, e2] at key | (simp only [Int.reducePow, Int.reduceSub] at key)
  rw [key]
  clear key e e2
  have : 0 ≤ y % 256 ∧ y % 256 < 256 := by omega
  rw [w64 (by omega) (by omega)]
  omega
theorem rd_byte {l : List Int} (h : Bytes l) (i : Int) : 0 ≤ rd l i ∧ rd l i ≤ 255 := by
  unfold rd
  rw [List.getD_eq_getElem?_getD]
  cases e : l[i.toNat]? with
  | none => simp
  | some x => exact h x (List.mem_of_getElem? e)
theorem next_ev {l : List Int} (hl : Bytes l) (a s : Int) (h0 : 0 ≤ a) (h1 : a ≤ 4611686018427387904) : ∃ x s', spec_l1Cur_next.f l a s = some (x, a + 1, s') ∧ 0 ≤ x ∧ x ≤ 255 := by
  have hw : wrap64 (a + 1) = a + 1 := w64 (by omega) (by omega)
  unfold spec_l1Cur_next.f
  rw [hw]
  by_cases c : a < (l.length : Int)
  · rw [if_pos c, if_pos h0, if_pos (by omega)]
    have hb := rd_byte hl a
    rw [w64 (x := rd l a) (by omega) (by omega)]
    exact ⟨_, _, rfl, hb⟩
  · rw [if_neg c, if_neg (by omega)]
    exact ⟨_, _, rfl, low_byte _⟩
theorem pick_ev {l : List Int} (hl : Bytes l) (a s : Int) (h0 : 0 ≤ a) (h1 : a ≤ 4611686018427387000) (n : Int) (hn : n ≤ 1000) : ∃ x a' s', spec_l1Cur_pick.f l a s n = some (x, a', s') ∧ (0 ≤ x ∧ (1 ≤ n → x < n)) ∧ a ≤ a' ∧ a' ≤ a + 2 := by
  unfold spec_l1Cur_pick.f
  by_cases c : n ≤ 1
  · rw [if_pos c]; exact ⟨0, a, s, rfl, ⟨by omega, by omega⟩, by omega, by omega⟩
  · rw [if_neg c]
    obtain ⟨x, s1, e1, x0, x1⟩ := next_ev hl a s h0 (by omega)
    rw [e1]
    simp only [Option.bind_some]
    by_cases c2 : n > 200
    · rw [if_pos c2]
      obtain ⟨y, s2, e2, y0, y1⟩ := next_ev hl (a + 1) s1 (by omega) (by omega)
      rw [e2]
      simp only [Option.bind_some]
      rw [if_neg (by omega)]
      have w1 : wrap64 (x * 256) = x * 256 := w64 (by omega) (by omega)
      have w2 : wrap64 (x * 256 + y) = x * 256 + y := w64 (by omega) (by omega)
      rw [w1, w2]
      refine ⟨_, _, _, rfl, ⟨Int.tmod_nonneg _ (by omega), fun _ => Int.tmod_lt_of_pos _ (by omega)⟩, by omega, by omega⟩
    · rw [if_neg c2, if_neg (by omega)]
      refine ⟨_, _, _, rfl, ⟨Int.tmod_nonneg _ (by omega), fun _ => Int.tmod_lt_of_pos _ (by omega)⟩, by omega, by omega⟩
theorem among_ev {l : List Int} (hl : Bytes l) (a s : Int) (h0 : 0 ≤ a) (h1 : a ≤ 4611686018427387000) (L : List Int) (hL : 0 < L.length) (hL2 : L.length ≤ 1000) : ∃ x a' s', spec_l1Cur_among.f l a s L = some (x, a', s') ∧ x ∈ L ∧ a ≤ a' ∧ a' ≤ a + 2 := by
  unfold spec_l1Cur_among.f
  obtain ⟨x, a', s', e, ⟨x0, x1⟩, h2, h3⟩ := pick_ev hl a s h0 h1 (L.length : Int) (by omega)
  have x2 := x1 (by omega)
  rw [e]
  simp only [Option.bind_some]
  rw [if_pos x0, if_pos x2]
  refine ⟨_, _, _, rfl, ?_, h2, h3⟩
  obtain ⟨m, rfl⟩ := Int.eq_ofNat_of_zero_le x0
  have hm : m < L.length := by omega
  rw [rd_lt hm]
  exact List.getElem_mem hm
theorem one_ev {l : List Int} (hl : Bytes l) (a s : Int) (h0 : 0 ≤ a) (h1 : a ≤ 4611686018427387000) (n : Int) (hn : n ≤ 1000) : ∃ b a' s', spec_l1Cur_one.f l a s n = some (b, a', s') ∧ a ≤ a' ∧ a' ≤ a + 2 := by
  unfold spec_l1Cur_one.f
  obtain ⟨x, a', s', e, _, h2, h3⟩ := pick_ev hl a s h0 h1 n hn
  rw [e]
  exact ⟨_, _, _, rfl, h2, h3⟩
end Go.Proofs.Ytckhmeadflafaaa.PureDraw
/-! Having a cell, in the program and in the reference. No conditions beyond those of the lemmas' own hypotheses. -/
namespace Go.Proofs.Ytckhmeadflafaaa.PureHas
open Go.RowKit Go.Proofs.Ytckhmeadflafaaa.XFb Go.Proofs.Ytckhmeadflafaaa.Plain Go.Proofs.Ytckhmeadflafaaa.PureCells Go.Proofs.YtckhmeadflafaaaW.PrintWords Go.Proofs.YtckhmeadflafaaaW.PrintLast Go.Proofs.YtckhmeadflafaaaW.PrintMore
set_option linter.unusedVariables false
/-! ### having a cell -/
def hsC (a : List Cl) (x y : Int) : Bool := a.any fun e => decide (e.f0 = x ∧ e.f1 = y)
theorem has_ev (a : List Cl) (ha : a.length ≤ 1000) (x y : Int) : ∃ t, Ev (fun k => spec_l8Has.f k a x y) t ∧ (t ≥ 0 ↔ hsC a x y = true) := by
  have key : ∀ i, i ≤ a.length → ∃ t, Ev (fun k => spec_l8Has.l0 k a x y (i : Int)) t ∧ (t ≥ 0 ↔ hsC (a.drop i) x y = true) := by
    refine downTo a.length ?_ ?_
    · refine ⟨-1, Ev.step (fun k => by simp only [spec_l8Has.l0]; exact rfl) (ifn (by omega) (done rfl)), ?_⟩
      rw [List.drop_length]; simp [hsC]
    · intro i hi ⟨t, e1, e2⟩
      rw [drop_cons hi]
      by_cases h : a[i].f0 = x ∧ a[i].f1 = y
      · refine ⟨(i : Int), Ev.step (fun k => by simp only [spec_l8Has.l0]; exact rfl) (ifp (by omega) (ifp (by omega) (ifp (by rw [rdC hi]; simp [h.1, h.2]) (done rfl)))), ?_⟩
        constructor
        · intro _; unfold hsC; rw [List.any_cons, decide_eq_true h]; rfl
        · intro _; omega
      · refine ⟨t, Ev.step (fun k => by simp only [spec_l8Has.l0]; exact rfl) (ifp (by omega) (ifp (by omega) (ifn (by rw [rdC hi]; simpa using h) ?_))), ?_⟩
        · rw [wrapS hi (by omega)]; exact e1
        · rw [e2]; unfold hsC; rw [List.any_cons, decide_eq_false h]; rfl
  exact key 0 (Nat.zero_le _)
end Go.Proofs.Ytckhmeadflafaaa.PureHas
/-! The cells besides a body, as the reference lists them. No conditions beyond those of the lemmas' own hypotheses. -/
namespace Go.Proofs.Ytckhmeadflafaaa.PureEdge
open Go.RowKit Go.Proofs.Ytckhmeadflafaaa.XFb Go.Proofs.Ytckhmeadflafaaa.Plain Go.Proofs.Ytckhmeadflafaaa.PureCells Go.Proofs.Ytckhmeadflafaaa.PureBody Go.Proofs.Ytckhmeadflafaaa.PureHas Go.Proofs.YtckhmeadflafaaaW.PrintWords Go.Proofs.YtckhmeadflafaaaW.PrintLast Go.Proofs.YtckhmeadflafaaaW.PrintMore
set_option linter.unusedVariables false
def nx (l : List Cl) (x y : Int) : Bool := l.any fun c => nr c ⟨x, y⟩
def isEdge (l : List Cl) (x y : Int) : Bool := nx l x y && !hsC l x y
def rowE (l : List Cl) (x : Int) : Nat → List Cl
  | 0 => []
  | n + 1 => (if isEdge l x (12 - (n : Int)) = true then [⟨x, 12 - (n : Int)⟩] else []) ++ rowE l x n
def colE (l : List Cl) : Nat → List Cl
  | 0 => []
  | n + 1 => rowE l (12 - (n : Int)) 14 ++ colE l n
theorem rowE_len (l : List Cl) (x : Int) : ∀ n, (rowE l x n).length ≤ n := by
  intro n
  induction n with
  | zero => exact Nat.le_refl _
  | succ n ih =>
    show ((if isEdge l x (12 - (n : Int)) = true then [(⟨x, 12 - (n : Int)⟩ : Cl)] else []) ++ rowE l x n).length ≤ n + 1
    rw [List.length_append]
    by_cases h : isEdge l x (12 - (n : Int)) = true
    · rw [if_pos h]; simp only [List.length_singleton]; omega
    · rw [if_neg h]; simp only [List.length_nil]; omega
theorem colE_len (l : List Cl) : ∀ n, (colE l n).length ≤ 14 * n := by
  intro n
  induction n with
  | zero => exact Nat.le_refl _
  | succ n ih =>
    show (rowE l (12 - (n : Int)) 14 ++ colE l n).length ≤ 14 * (n + 1)
    rw [List.length_append]
    have := rowE_len l (12 - (n : Int)) 14
    omega
theorem rowE_mem (l : List Cl) (x : Int) (z : Cl) : ∀ n : Nat, z ∈ rowE l x n ↔ z.f0 = x ∧ 13 - (n : Int) ≤ z.f1 ∧ z.f1 ≤ 12 ∧ isEdge l z.f0 z.f1 = true := by
  intro n
  induction n with
  | zero => exact ⟨fun h => absurd h (by simp [rowE]), fun h => absurd h.2 (by omega)⟩
  | succ n ih =>
    show z ∈ (if isEdge l x (12 - (n : Int)) = true then [(⟨x, 12 - (n : Int)⟩ : Cl)] else []) ++ rowE l x n ↔ _
    rw [List.mem_append, ih]
    constructor
    · rintro (h | ⟨h1, h2, h3, h4⟩)
      · by_cases he : isEdge l x (12 - (n : Int)) = true
        · rw [if_pos he, List.mem_singleton] at h
          subst h
          exact ⟨rfl, by show 13 - ((n + 1 : Nat) : Int) ≤ 12 - (n : Int); omega, by show 12 - (n : Int) ≤ 12; omega, he⟩
        · rw [if_neg he] at h; cases h
      · exact ⟨h1, by omega, h3, h4⟩
    · rintro ⟨h1, h2, h3, h4⟩
      by_cases hz : z.f1 = 12 - (n : Int)
      · left
        rw [h1, hz] at h4
        rw [if_pos h4, List.mem_singleton]
        cases z
        simp only at h1 hz
        rw [h1, hz]
      · exact Or.inr ⟨h1, by omega, h3, h4⟩
theorem colE_mem (l : List Cl) (z : Cl) : ∀ n : Nat, z ∈ colE l n ↔ 13 - (n : Int) ≤ z.f0 ∧ z.f0 ≤ 12 ∧ -1 ≤ z.f1 ∧ z.f1 ≤ 12 ∧ isEdge l z.f0 z.f1 = true := by
  intro n
  induction n with
  | zero => exact ⟨fun h => absurd h (by simp [colE]), fun h => absurd h (by omega)⟩
  | succ n ih =>
    show z ∈ rowE l (12 - (n : Int)) 14 ++ colE l n ↔ _
    rw [List.mem_append, ih, rowE_mem]
    constructor
    · rintro (⟨h1, h2, h3, h4⟩ | ⟨h1, h2, h3, h4⟩)
      · exact ⟨by omega, by omega, by omega, h3, h4⟩
      · exact ⟨by omega, h2, h3, h4⟩
    · rintro ⟨h1, h2, h3, h4, h5⟩
      by_cases hz : z.f0 = 12 - (n : Int)
      · exact Or.inl ⟨hz, by omega, h4, h5⟩
      · exact Or.inr ⟨by omega, h2, h3, h4, h5⟩
theorem edge_l2 (l : List Cl) (hn : l.length ≤ 1000) (hs : ∀ c ∈ l, Small c) (acc : List Cl) (ha : acc.length ≤ 1000) (x y : Int) (hx : -1 ≤ x ∧ x ≤ 12) (hy : -1 ≤ y ∧ y ≤ 12) (r : List Cl) (h : Ev (fun k => spec_l8Edge.l1 k l (acc ++ (if isEdge l x y = true then [⟨x, y⟩] else [])) x (y + 1)) r) :
    ∀ i, i ≤ l.length → ∀ nb : Bool, nb = nx (l.take i) x y → Ev (fun k => spec_l8Edge.l2 k l acc x y nb (i : Int)) r := by
  have hwy : wrap64 (y + 1) = y + 1 := w64 (by omega) (by omega)
  have hal : acc.length < 8796093022208 := by omega
  refine downTo l.length ?_ ?_
  · intro nb hnb
    rw [List.take_length] at hnb
    have nlt : ¬ (l.length : Int) < (l.length : Int) := Int.lt_irrefl _
    refine Ev.step (fun k => by simp only [spec_l8Edge.l2]; exact rfl) (ifn nlt ?_)
    rw [hwy]
    cases hb : nb with
    | false =>
      have : ¬ isEdge l x y = true := by unfold isEdge; rw [← hnb, hb]; simp
      rw [if_neg this, List.append_nil] at h
      exact ifn Bool.false_ne_true h
    | true =>
      obtain ⟨t, t1, t2⟩ := has_ev l hn x y
      refine ifp (Eq.refl true) (Ev.bind t1 ?_)
      by_cases ht : t < 0
      · have hh : isEdge l x y = true := by
          unfold isEdge
          rw [← hnb, hb]
          cases hc : hsC l x y with
          | true => exact absurd (t2.2 hc) (by omega)
          | false => rfl
        rw [if_pos hh] at h
        exact ifp ht (ifp hal h)
      · have hh : ¬ isEdge l x y = true := by
          unfold isEdge
          rw [t2.1 (by omega)]; simp
        rw [if_neg hh, List.append_nil] at h
        exact ifn ht h
  · intro i hi ih nb hnb
    have hil : (i : Int) < (l.length : Int) := by omega
    have hi0 : 0 ≤ (i : Int) := by omega
    have hw : wrap64 ((i : Int) + 1) = ((i + 1 : Nat) : Int) := wrapS hi (by omega)
    have hst : nx (l.take (i + 1)) x y = (nx (l.take i) x y || nr l[i] ⟨x, y⟩) := by
      unfold nx; rw [take_succ hi, List.any_append]; simp
    refine Ev.step (fun k => by simp only [spec_l8Edge.l2]; exact rfl) (ifp hil ?_)
    rw [hw]
    cases hb : nb with
    | true =>
      exact ifp (Eq.refl true) (ih true (by rw [hst, ← hnb, hb]; rfl))
    | false =>
      have hne := near_eq (hs l[i] (List.getElem_mem hi)) (y := (⟨x, y⟩ : Cl)) ⟨⟨by show -1000000 ≤ x; omega, by show x ≤ 1000000; omega⟩, by show -1000000 ≤ y; omega, by show y ≤ 1000000; omega⟩
      refine ifn Bool.false_ne_true (ifp hi0 ?_)
      rw [rdC hi]
      exact somb hne (ih _ (by rw [hst, ← hnb, hb]; rfl))
theorem edge_l1 (l : List Cl) (hn : l.length ≤ 1000) (hs : ∀ c ∈ l, Small c) (x : Int) (hx : -1 ≤ x ∧ x ≤ 12) (r : List Cl) :
    ∀ n : Nat, n ≤ 14 → ∀ acc : List Cl, acc.length + n ≤ 1000 → Ev (fun k => spec_l8Edge.l0 k l (acc ++ rowE l x n) (x + 1)) r → Ev (fun k => spec_l8Edge.l1 k l acc x (13 - (n : Int))) r := by
  intro n
  induction n with
  | zero =>
    intro _ acc ha h
    have hwx : wrap64 (x + 1) = x + 1 := w64 (by omega) (by omega)
    have nlt : ¬ (13 - ((0 : Nat) : Int)) ≤ 12 := by omega
    refine Ev.step (fun k => by simp only [spec_l8Edge.l1]; exact rfl) (ifn nlt ?_)
    rw [hwx]
    have e : acc ++ rowE l x 0 = acc := List.append_nil acc
    rw [e] at h
    exact h
  | succ n ih =>
    intro hn2 acc ha h
    have hlt : (13 - ((n + 1 : Nat) : Int)) ≤ 12 := by omega
    have hy : (13 - ((n + 1 : Nat) : Int)) = 12 - (n : Int) := by omega
    refine Ev.step (fun k => by simp only [spec_l8Edge.l1]; exact rfl) (ifp hlt ?_)
    rw [hy]
    refine edge_l2 l hn hs acc (by omega) x (12 - (n : Int)) hx (by omega) r ?_ 0 (Nat.zero_le _) false (by simp [nx])
    have e : (12 - (n : Int)) + 1 = 13 - (n : Int) := by omega
    rw [e]
    refine ih (by omega) _ ?_ ?_
    · rw [List.length_append]
      by_cases hh : isEdge l x (12 - (n : Int)) = true
      · rw [if_pos hh]; simp only [List.length_singleton]; omega
      · rw [if_neg hh]; simp only [List.length_nil]; omega
    · rw [List.append_assoc]; exact h
theorem edge_l0 (l : List Cl) (hn : l.length ≤ 1000) (hs : ∀ c ∈ l, Small c) :
    ∀ n : Nat, n ≤ 14 → ∀ acc : List Cl, acc.length + 14 * n ≤ 500 → Ev (fun k => spec_l8Edge.l0 k l acc (13 - (n : Int))) (acc ++ colE l n) := by
  intro n
  induction n with
  | zero =>
    intro _ acc ha
    have nlt : ¬ (13 - ((0 : Nat) : Int)) ≤ 12 := by omega
    exact Ev.step (fun k => by simp only [spec_l8Edge.l0]; exact rfl) (ifn nlt (done (List.append_nil acc).symm))
  | succ n ih =>
    intro hn2 acc ha
    have hlt : (13 - ((n + 1 : Nat) : Int)) ≤ 12 := by omega
    have hx : (13 - ((n + 1 : Nat) : Int)) = 12 - (n : Int) := by omega
    refine Ev.step (fun k => by simp only [spec_l8Edge.l0]; exact rfl) (ifp hlt ?_)
    rw [hx]
    have hl := rowE_len l (12 - (n : Int)) 14
    have h := ih (by omega) (acc ++ rowE l (12 - (n : Int)) 14) (by rw [List.length_append]; omega)
    have e : (12 - (n : Int)) + 1 = 13 - (n : Int) := by omega
    have e2 : acc ++ colE l (n + 1) = (acc ++ rowE l (12 - (n : Int)) 14) ++ colE l n := by rw [List.append_assoc]; rfl
    rw [e2]
    have h2 := edge_l1 l hn hs (12 - (n : Int)) (by omega) _ 14 (Nat.le_refl _) acc (by omega) (by rw [e]; exact h)
    exact h2
def edge (l : List Cl) : List Cl := colE l 14
theorem edge_ev (l : List Cl) (hn : l.length ≤ 1000) (hs : ∀ c ∈ l, Small c) : Ev (fun k => spec_l8Edge.f k l) (edge l) := edge_l0 l hn hs 14 (Nat.le_refl _) [] (by simp)
theorem edge_len (l : List Cl) : (edge l).length ≤ 196 := colE_len l 14
theorem edge_mem (l : List Cl) (z : Cl) : z ∈ edge l ↔ (-1 ≤ z.f0 ∧ z.f0 ≤ 12) ∧ (-1 ≤ z.f1 ∧ z.f1 ≤ 12) ∧ (∃ c ∈ l, nr c z = true) ∧ z ∉ l := by
  have e : isEdge l z.f0 z.f1 = true ↔ (∃ c ∈ l, nr c z = true) ∧ z ∉ l := by
    unfold isEdge nx hsC
    rw [Bool.and_eq_true, List.any_eq_true, Bool.not_eq_true', ← Bool.not_eq_true, List.any_eq_true]
    refine and_congr Iff.rfl (not_congr ⟨?_, fun h => ⟨z, h, decide_eq_true ⟨rfl, rfl⟩⟩⟩)
    rintro ⟨c, hc, h⟩
    have h := of_decide_eq_true h
    cases z; cases c
    simp only at h
    rw [h.1, h.2] at hc
    exact hc
  unfold edge
  rw [colE_mem, e]
  constructor
  · rintro ⟨h1, h2, h3, h4, h5⟩; exact ⟨⟨by omega, h2⟩, ⟨h3, h4⟩, h5⟩
  · rintro ⟨⟨h1, h2⟩, ⟨h3, h4⟩, h5⟩; exact ⟨by omega, h2, h3, h4, h5⟩
end Go.Proofs.Ytckhmeadflafaaa.PureEdge
namespace Go.Proofs.Ytckhmeadflafaaa.PureDrawBody
open Go.RowKit Go.Proofs.Ytckhmeadflafaaa.XFb Go.Proofs.Ytckhmeadflafaaa.Plain Go.Proofs.Ytckhmeadflafaaa.PureCells Go.Proofs.Ytckhmeadflafaaa.PureBody Go.Proofs.Ytckhmeadflafaaa.PurePut Go.Proofs.Ytckhmeadflafaaa.PureHas Go.Proofs.Ytckhmeadflafaaa.PureEdge Go.Proofs.Ytckhmeadflafaaa.PureLoose Go.Proofs.Ytckhmeadflafaaa.PureReach Go.Proofs.Ytckhmeadflafaaa.PureDraw Go.Proofs.YtckhmeadflafaaaW.PrintWords Go.Proofs.YtckhmeadflafaaaW.PrintLast Go.Proofs.YtckhmeadflafaaaW.PrintMore
set_option linter.unusedVariables false
/-- What the growing cells keep. -/
structure Grow (l : List Cl) : Prop where
  n0 : 0 < l.length
  n1 : l.length ≤ 12
  each : ∀ c ∈ l, (0 ≤ c.f0 ∧ c.f0 < (l.length : Int)) ∧ 0 ≤ c.f1 ∧ c.f1 < (l.length : Int)
  low : ∃ c ∈ l, c.f0 = 0
  ground : ∃ c ∈ l, c.f1 = 0
theorem Grow.small {l : List Cl} (g : Grow l) : ∀ c ∈ l, Small c := by
  intro c hc
  obtain ⟨⟨a, b⟩, d, e⟩ := g.each c hc
  have := g.n1
  exact ⟨⟨by omega, by omega⟩, by omega, by omega⟩
theorem Grow.edge {l : List Cl} (g : Grow l) : 0 < (edge l).length := by
  obtain ⟨c, hc, h0⟩ := g.low
  obtain ⟨⟨a, b⟩, d, e⟩ := g.each c hc
  have n1 := g.n1
  refine List.length_pos_of_mem (a := (⟨-1, c.f1⟩ : Cl)) ((edge_mem l _).2 ⟨⟨by show (-1 : Int) ≤ -1; omega, by show (-1 : Int) ≤ 12; omega⟩, ⟨by show -1 ≤ c.f1; omega, by show c.f1 ≤ 12; omega⟩, ⟨c, hc, ?_⟩, fun hm => ?_⟩)
  · unfold nr ab
    rw [decide_eq_true_eq]
    show (if -(c.f0 - -1) > c.f0 - -1 then -(c.f0 - -1) else c.f0 - -1) + (if -(c.f1 - c.f1) > c.f1 - c.f1 then -(c.f1 - c.f1) else c.f1 - c.f1) = 1
    split <;> split <;> omega
  · have := (g.each _ hm).1.1
    have h : (0 : Int) ≤ -1 := this
    omega
theorem Grow.step {l : List Cl} (g : Grow l) (hl : l.length < 12) (z : Cl) (hz : z ∈ PureEdge.edge l) (h0 : 0 < (ins z l).length) : Grow (pd (ins z l) h0) ∧ (pd (ins z l) h0).length = l.length + 1 := by
  have hlen : (pd (ins z l) h0).length = l.length + 1 := by rw [pd_len, ins_len]
  obtain ⟨⟨z1, z2⟩, ⟨z3, z4⟩, ⟨c, hc, hnr⟩, hnot⟩ := (edge_mem l z).1 hz
  have k1 := nr_f0 hnr
  have k2 := nr_f0 (show nr z c = true by rw [nr_symm]; exact hnr)
  have gc := g.each c hc
  have hperm := ins_perm z l
  have hmem : ∀ w, w ∈ ins z l ↔ w = z ∨ w ∈ l := fun w => by rw [hperm.mem_iff, List.mem_cons]
  obtain ⟨xa, hxa, hxae⟩ := lw_at h0
  obtain ⟨xb, hxb, hxbe⟩ := dn_at h0
  have hA := lw_le (ins z l) (ins z l)[0].f0
  have hB := dn_le (ins z l) (ins z l)[0].f1
  obtain ⟨s1, s2⟩ := sortC_spec ((ins z l).map (sh (lw (ins z l)[0].f0 (ins z l)) (dn (ins z l)[0].f1 (ins z l))))
  have hp : (pd (ins z l) h0).Perm _ := s2
  obtain ⟨c0, hc0, hc00⟩ := g.low
  obtain ⟨c1, hc1, hc10⟩ := g.ground
  have hA0 := hA.2 c0 ((hmem c0).2 (Or.inr hc0))
  have hB0 := hB.2 c1 ((hmem c1).2 (Or.inr hc1))
  generalize lw (ins z l)[0].f0 (ins z l) = A at *
  generalize dn (ins z l)[0].f1 (ins z l) = B at *
  refine ⟨⟨by omega, by omega, ?_, ?_, ?_⟩, hlen⟩
  · intro w hw
    obtain ⟨y, hy, rfl⟩ := List.mem_map.1 (hp.mem_iff.1 hw)
    rw [hlen]
    have hAy := hA.2 y hy
    have hBy := hB.2 y hy
    show (0 ≤ y.f0 - A ∧ y.f0 - A < ((l.length + 1 : Nat) : Int)) ∧ 0 ≤ y.f1 - B ∧ y.f1 - B < ((l.length + 1 : Nat) : Int)
    refine ⟨⟨by omega, ?_⟩, by omega, ?_⟩
    · rcases (hmem xa).1 hxa with rfl | hxl
      · rcases (hmem y).1 hy with rfl | hyl
        · omega
        · have := g.each y hyl; omega
      · have := g.each xa hxl
        rcases (hmem y).1 hy with rfl | hyl
        · omega
        · have := g.each y hyl; omega
    · rcases (hmem xb).1 hxb with rfl | hxl
      · rcases (hmem y).1 hy with rfl | hyl
        · omega
        · have := g.each y hyl; omega
      · have := g.each xb hxl
        rcases (hmem y).1 hy with rfl | hyl
        · omega
        · have := g.each y hyl; omega
  · exact ⟨sh A B xa, hp.mem_iff.2 (List.mem_map_of_mem hxa), by show xa.f0 - A = 0; omega⟩
  · exact ⟨sh A B xb, hp.mem_iff.2 (List.mem_map_of_mem hxb), by show xb.f1 - B = 0; omega⟩
theorem lift_ev (n : Nat) (hn : n ≤ 100) (L : List Int) (a s : Int) : ∀ i, i ≤ n → ∀ l : List Cl, l.length = n → ∃ o : List Cl, Ev (fun k => spec_l1Cur_body.l1 k l (i : Int) L a s) (o, a, s) ∧ o.length = n := by
  refine downTo n ?_ ?_
  · intro l hl
    have nlt : ¬ (n : Int) < (l.length : Int) := by omega
    exact ⟨l, Ev.step (fun k => by simp only [spec_l1Cur_body.l1]; exact rfl) (ifn nlt (done rfl)), hl⟩
  · intro i hi ih l hl
    have hil : (i : Int) < (l.length : Int) := by omega
    have hi0 : 0 ≤ (i : Int) := by omega
    obtain ⟨o, e1, e2⟩ := ih (l.set (i : Int).toNat (⟨(rd_T49 l (i : Int)).f0, wrap64 (((rd_T49 l (i : Int)).f1) + 1)⟩ : Cl)) (by rw [List.length_set]; exact hl)
    refine ⟨o, Ev.step (fun k => by simp only [spec_l1Cur_body.l1]; exact rfl) (ifp hil (ifp hi0 ?_)), e2⟩
    rw [wrapS hi (by omega)]
    exact e1
theorem grow_ev {L : List Int} (hL : Bytes L) (want : Int) (hw : want ≤ 12) : ∀ n : Nat, ∀ l : List Cl, Grow l → l.length + n = 13 → ∀ a s : Int, 0 ≤ a → a + 2 * (n : Int) + 20 ≤ 4611686018427380000 → ∃ o a' s', Ev (fun k => spec_l1Cur_body.l0 k l want L a s) (o, a', s') ∧ o.length ≤ 13 ∧ a ≤ a' ∧ a' ≤ a + 2 * (n : Int) + 20 := by
  intro n
  induction n with
  | zero => intro l g h; have := g.n1; omega
  | succ n ih =>
    intro l g h a s ha hb
    have n0 := g.n0
    have n1 := g.n1
    by_cases c : (l.length : Int) < want
    · have he := edge_ev l (by omega) g.small
      have hel := edge_len l
      have hep := g.edge
      obtain ⟨x, a1, s1, p1, ⟨x0, x1⟩, p3, p4⟩ := pick_ev hL a s ha (by omega) ((edge l).length : Int) (by omega)
      have x2 := x1 (by omega)
      obtain ⟨m, rfl⟩ := Int.eq_ofNat_of_zero_le x0
      have hm : m < (edge l).length := by omega
      have hput := l8Put_ev l (by omega) (edge l)[m]
      have h0 : 0 < (ins (edge l)[m] l).length := by rw [ins_len]; omega
      obtain ⟨g2, hl2⟩ := g.step (by omega) _ (List.getElem_mem hm) h0
      have hzs : Small (edge l)[m] := by
        obtain ⟨⟨z1, z2⟩, ⟨z3, z4⟩, _⟩ := (edge_mem l _).1 (List.getElem_mem hm)
        exact ⟨⟨by omega, by omega⟩, by omega, by omega⟩
      have hd := l8Down_ev (ins (edge l)[m] l) h0 (by rw [ins_len]; omega) (fun w hw => by
        rcases List.mem_cons.1 ((ins_perm _ l).mem_iff.1 hw) with rfl | hw
        · exact hzs
        · exact g.small w hw)
      obtain ⟨o, a', s', e1, e2, e3, e4⟩ := ih _ g2 (by omega) a1 s1 (by omega) (by omega)
      refine ⟨o, a', s', Ev.step (fun k => by simp only [spec_l1Cur_body.l0]; exact rfl) (ifp c (Ev.bind he (somb p1 (ifp x0 (ifp x2 ?_))))), e2, by omega, by omega⟩
      rw [rdC hm]
      exact Ev.bind hput (Ev.bind hd e1)
    · obtain ⟨x, a1, s1, p1, ⟨x0, x1⟩, p3, p4⟩ := pick_ev hL a s ha (by omega) 50 (by omega)
      have fin : ∀ r : List Cl × Int × Int, r.1.length ≤ 13 → a ≤ r.2.1 → r.2.1 ≤ a + 20 → Ev (fun k => spec_l1Cur_body.l0 k l want L a s) r → ∃ o a' s', Ev (fun k => spec_l1Cur_body.l0 k l want L a s) (o, a', s') ∧ o.length ≤ 13 ∧ a ≤ a' ∧ a' ≤ a + 2 * ((n + 1 : Nat) : Int) + 20 := fun r h1 h2 h3 h4 => ⟨r.1, r.2.1, r.2.2, h4, h1, h2, by omega⟩
      have w1 : wrap64 ((l.length : Int) - 1) = ((l.length - 1 : Nat) : Int) := by rw [w64 (by omega) (by omega)]; omega
      have hal : l.length < 8796093022208 := by omega
      have hlp : (0 : Int) < (l.length : Int) := by omega
      by_cases x3 : x = 0
      · obtain ⟨y, a2, s2, q1, ⟨y0, y1⟩, q3, q4⟩ := pick_ev hL a1 s1 (by omega) (by omega) (l.length : Int) (by omega)
        obtain ⟨v, a3, s3, t1, _, t3, t4⟩ := among_ev hL a2 s2 (by omega) (by omega) [(-1), 12, 4611686018427387904] (by simp) (by simp)
        have y2 := y1 (by omega)
        refine fin (l.set y.toNat ⟨v, 0⟩, a3, s3) (by rw [List.length_set]; omega) (by show a ≤ a3; omega) (by show a3 ≤ a + 20; omega) ?_
        exact Ev.step (fun k => by simp only [spec_l1Cur_body.l0]; exact rfl) (ifn c (somb p1 (ifp x3 (somb q1 (somb t1 (ifp y0 (ifp y2 (done rfl))))))))
      · by_cases x4 : x = 1
        · have hlast : ((l.length - 1 : Nat) : Int) < (l.length : Int) := by omega
          have hlast0 : (0 : Int) ≤ ((l.length - 1 : Nat) : Int) := by omega
          refine fin (l ++ [(⟨(rd_T49 l (wrap64 ((l.length : Int) - 1))).f0, wrap64 (((rd_T49 l (wrap64 ((l.length : Int) - 1))).f1) + 2)⟩ : Cl)], a1, s1) (by rw [List.length_append, List.length_singleton]; omega) (by show a ≤ a1; omega) (by show a1 ≤ a + 20; omega) ?_
          refine Ev.step (fun k => by simp only [spec_l1Cur_body.l0]; exact rfl) (ifn c (somb p1 (ifn x3 (ifp x4 ?_))))
          exact ifp (by rw [w1]; exact hlast0) (ifp (by rw [w1]; exact hlast) (ifp hal (done rfl)))
        · by_cases x5 : x = 2
          · refine fin (l ++ [(⟨(rd_T49 l 0).f0, (rd_T49 l 0).f1⟩ : Cl)], a1, s1) (by rw [List.length_append, List.length_singleton]; omega) (by show a ≤ a1; omega) (by show a1 ≤ a + 20; omega) ?_
            exact Ev.step (fun k => by simp only [spec_l1Cur_body.l0]; exact rfl) (ifn c (somb p1 (ifn x3 (ifn x4 (ifp x5 (ifp hlp (ifp hal (done rfl))))))))
          · by_cases x6 : x = 3
            · refine fin ([], a1, s1) (by simp) (by show a ≤ a1; omega) (by show a1 ≤ a + 20; omega) ?_
              exact Ev.step (fun k => by simp only [spec_l1Cur_body.l0]; exact rfl) (ifn c (somb p1 (ifn x3 (ifn x4 (ifn x5 (ifp x6 (done rfl)))))))
            · by_cases x7 : x = 4
              · obtain ⟨o, e1, e2⟩ := lift_ev l.length (by omega) L a1 s1 0 (Nat.zero_le _) l rfl
                refine fin (o, a1, s1) (by show o.length ≤ 13; omega) (by show a ≤ a1; omega) (by show a1 ≤ a + 20; omega) ?_
                exact Ev.step (fun k => by simp only [spec_l1Cur_body.l0]; exact rfl) (ifn c (somb p1 (ifn x3 (ifn x4 (ifn x5 (ifn x6 (ifp x7 e1)))))))
              · refine fin (l, a1, s1) (by show l.length ≤ 13; omega) (by show a ≤ a1; omega) (by show a1 ≤ a + 20; omega) ?_
                exact Ev.step (fun k => by simp only [spec_l1Cur_body.l0]; exact rfl) (ifn c (somb p1 (ifn x3 (ifn x4 (ifn x5 (ifn x6 (ifn x7 (done rfl))))))))
theorem body_ev {L : List Int} (hL : Bytes L) (a s : Int) (ha : 0 ≤ a) (hb : a ≤ 1000000) (most : Int) : ∃ o a' s', Ev (fun k => spec_l1Cur_body.f k L a s most) (o, a', s') ∧ o.length ≤ 13 ∧ a ≤ a' ∧ a' ≤ a + 50 := by
  obtain ⟨v, a1, s1, t1, t2, t3, t4⟩ := among_ev hL a s ha (by omega) [4, 5, 3, 2, 1, 7, 9, 12] (by simp) (by simp)
  have hv : v ≤ 12 := by
    simp only [List.mem_cons, List.not_mem_nil, or_false] at t2
    omega
  have hm : mn v most ≤ 12 := by unfold mn; split <;> omega
  have g0 : Grow [(⟨0, 0⟩ : Cl)] := by
    refine ⟨by simp, by simp, ?_, ⟨⟨0, 0⟩, by simp, rfl⟩, ⟨⟨0, 0⟩, by simp, rfl⟩⟩
    intro c hc
    rw [List.mem_singleton] at hc
    subst hc
    exact ⟨⟨Int.le_refl _, by simp⟩, Int.le_refl _, by simp⟩
  obtain ⟨o, a', s', e1, e2, e3, e4⟩ := grow_ev hL (mn v most) hm 12 [⟨0, 0⟩] g0 (by simp) a1 s1 (by omega) (by omega)
  refine ⟨o, a', s', ?_, e2, by omega, by omega⟩
  unfold spec_l1Cur_body.f
  exact somb t1 (somb (least_eq _ _) e1)
theorem isBody_draw {L : List Int} (hL : Bytes L) : ∃ o, Ev (fun k => spec_DrawIsBody.f k L) o ∧ o.length ≤ 13 := by
  obtain ⟨o, a', s', e1, e2, _⟩ := body_ev hL 0 0 (by omega) (by omega) 12
  unfold spec_DrawIsBody.f
  exact ⟨o, Ev.bind e1 (done rfl), e2⟩
theorem turnBody_draw {L : List Int} (hL : Bytes L) : ∃ p d, Ev (fun k => spec_DrawTurnBody.f k L) (p, d) ∧ p.length ≤ 13 := by
  obtain ⟨p, a1, s1, e1, e2, e3, e4⟩ := body_ev hL 0 0 (by omega) (by omega) 12
  obtain ⟨v, a3, s3, t1, _⟩ := among_ev hL a1 s1 (by omega) (by omega) [1, (-1), 1, (-1), 0, 2] (by simp) (by simp)
  unfold spec_DrawTurnBody.f
  exact ⟨p, v, Ev.bind e1 (somb t1 (done rfl)), e2⟩
theorem putDown_l0 {L : List Int} (hL : Bytes L) (b : List Cl) (hb : b.length ≤ 13) (x y a s : Int) (ha : 0 ≤ a) (ha2 : a ≤ 1000000) : ∀ n : Nat, n ≤ b.length → ∀ acc : List Cl, acc.length + n = b.length → ∃ o, Ev (fun k => spec_DrawPutDown.l0 k acc b x y ((n : Int) - 1) L a s) o ∧ o.length = b.length := by
  intro n
  induction n with
  | zero =>
    intro _ acc hacc
    have nz : ¬ (((0 : Nat) : Int) - 1) ≥ 0 := by omega
    by_cases h0 : (acc.length : Int) > 0
    · obtain ⟨t, a1, s1, t1, t2, t3⟩ := one_ev hL a s ha (by omega) 30 (by omega)
      cases t with
      | false => exact ⟨acc, Ev.step (fun k => by simp only [spec_DrawPutDown.l0]; exact rfl) (ifn nz (ifp h0 (somb t1 (ifn Bool.false_ne_true (done rfl))))), by omega⟩
      | true =>
        obtain ⟨v, a2, s2, u1, _⟩ := among_ev hL a1 s1 (by omega) (by omega) [60, 61, (-61), 4611686018427387904] (by simp) (by simp)
        refine ⟨acc.set (0 : Int).toNat ⟨v, 0⟩, Ev.step (fun k => by simp only [spec_DrawPutDown.l0]; exact rfl) (ifn nz (ifp h0 (somb t1 ?_))), by rw [List.length_set]; omega⟩
        refine ifp (Eq.refl true) (somb u1 (ifp (by omega) (done rfl)))
    · exact ⟨acc, Ev.step (fun k => by simp only [spec_DrawPutDown.l0]; exact rfl) (ifn nz (ifn h0 (done rfl))), by omega⟩
  | succ n ih =>
    intro hn acc hacc
    have e : ((n + 1 : Nat) : Int) - 1 = (n : Int) := by omega
    have hw : wrap64 ((n : Int) - 1) = (n : Int) - 1 := w64 (by omega) (by omega)
    obtain ⟨o, e1, e2⟩ := ih (by omega) (acc ++ [⟨wrap64 ((rd_T49 b (n : Int)).f0 + x), wrap64 ((rd_T49 b (n : Int)).f1 + y)⟩]) (by rw [List.length_append, List.length_singleton]; omega)
    refine ⟨o, ?_, e2⟩
    rw [e]
    refine Ev.step (fun k => by simp only [spec_DrawPutDown.l0]; exact rfl) (ifp (by omega) (ifp (by omega) (ifp (by omega) (ifp (by omega) ?_))))
    rw [hw]; exact e1
theorem putDown_draw {L : List Int} (hL : Bytes L) : ∃ o, Ev (fun k => spec_DrawPutDown.f k L) o ∧ o.length ≤ 13 := by
  obtain ⟨p, a1, s1, e1, e2, e3, e4⟩ := body_ev hL 0 0 (by omega) (by omega) 12
  obtain ⟨x, a2, s2, t1, _, t3⟩ := pick_ev hL a1 s1 (by omega) (by omega) 7 (by omega)
  obtain ⟨y, a3, s3, u1, _, u3⟩ := pick_ev hL a2 s2 (by omega) (by omega) 7 (by omega)
  obtain ⟨o, f1, f2⟩ := putDown_l0 hL p e2 (wrap64 (x - 3)) (wrap64 (y - 3)) a3 s3 (by omega) (by omega) p.length (Nat.le_refl _) [] (by simp)
  have hw : wrap64 ((p.length : Int) - 1) = (p.length : Int) - 1 := w64 (by omega) (by omega)
  unfold spec_DrawPutDown.f
  refine ⟨o, Ev.bind e1 (somb t1 (somb u1 ?_)), by omega⟩
  rw [hw]; exact f1
end Go.Proofs.Ytckhmeadflafaaa.PureDrawBody
