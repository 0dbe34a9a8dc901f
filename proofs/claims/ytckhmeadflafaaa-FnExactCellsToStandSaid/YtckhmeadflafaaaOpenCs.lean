/- Arguments that are slices, structs and arrays of whole numbers, opened for a law's row: what each holds, as lists. No conditions beyond those of the lemmas' own hypotheses. -/
import Derived.WalkKit
import Derived.ProofKit
import Derived.OpenShut
import Derived.Deep.Slices
import Derived.SizedLaws
import Derived.Below
import Derived.ChangeOld
import Derived.Test.YtckhmeadflafaaaVCs
namespace Go.Proofs.Ytckhmeadflafaaa.Opening
open Go.ChangeShapes Go.WideShapes Go.ChangeAt Go.RowKit Go.Deep Go.Proofs.YtckhmeadflafaaaW.PrintWords
set_option linter.unusedVariables false

/-- A type all of whose m cells are whole numbers of the kind int. -/
def Flat (P : Program) (e : TypeId) (m : Nat) : Prop :=
  P.cellsOf e = m ∧ ∀ {H : Type} (enc : TypeId × Value → H) (w : World) (base : Nat) (spare : Nat → Bool) (held : Bool) (fuel : Nat) (cs : List Value) (x : DataW H × List MemPlace),
    DataW.trod enc P w base spare held fuel e cs = some x → ∃ g : Nat → Int, cs = (List.range m).map (fun j => Value.int .i64 (g j)) ∧ ∀ j, j < m → (Lit.int .i64 (g j)).wf = true

theorem flat_int {P : Program} {e : TypeId} (h : P.underlying e = some (.int .i64)) (hc : P.cellsOf e = 1) : Flat P e 1 := by
  refine ⟨hc, fun enc w base spare held fuel cs x hx => ?_⟩
  obtain ⟨n, rfl, _, hw⟩ := DataW.trod_int h hx
  exact ⟨fun _ => n, rfl, fun _ _ => hw⟩

theorem range_split (cs : List Value) (m : Nat) (hl : cs.length = m) (g : Nat → Int) (h : ∀ j, j < m → (cs.drop j).take 1 = [Value.int .i64 (g j)]) : cs = (List.range m).map (fun j => Value.int .i64 (g j)) := by
  apply List.ext_getElem
  · simp [hl]
  · intro j h1 h2
    have := h j (by omega)
    rw [List.drop_eq_getElem_cons h1, List.take_succ_cons, List.take_zero] at this
    rw [List.getElem_map, List.getElem_range]
    exact (List.cons.inj this).1

theorem flat_struct {P : Program} {e t : TypeId} {fs : Array Field} {m : Nat} (h : P.underlying e = some (.struct fs)) (hi : P.underlying t = some (.int .i64)) (hci : P.cellsOf t = 1) (hc : P.cellsOf e = m) (hm : fs.size = m)
    (hf : ∀ (j : Nat) (f : Field), fs[j]? = some f → f.offset = j ∧ f.type = t) : Flat P e m := by
  refine ⟨hc, fun enc w base spare held fuel cs x hx => ?_⟩
  obtain ⟨xs, n, _, _, hcl, hxl, hat⟩ := DataW.trod_struct h hx
  have key : ∀ j, j < m → ∃ z : Int, (cs.drop j).take 1 = [Value.int .i64 z] ∧ (Lit.int .i64 z).wf = true := by
    intro j hj
    obtain ⟨f, hfj⟩ : ∃ f, fs[j]? = some f := ⟨fs[j], Array.getElem?_eq_getElem (by omega)⟩
    obtain ⟨ho, ht⟩ := hf j f hfj
    have h1 := hat j f hfj
    rw [ho, ht, hci] at h1
    have hx1 : xs[j]? = some (xs[j]'(by omega)) := List.getElem?_eq_getElem (by omega)
    rw [hx1] at h1
    obtain ⟨z, hz, _, hw⟩ := DataW.trod_int hi h1
    exact ⟨z, hz, hw⟩
  refine ⟨fun j => if hj : j < m then Classical.choose (key j hj) else 0, range_split cs m (hcl.trans hc) _ fun j hj => ?_, fun j hj => ?_⟩
  · rw [dif_pos hj]; exact (Classical.choose_spec (key j hj)).1
  · show (Lit.int .i64 (if hj : j < m then Classical.choose (key j hj) else 0)).wf = true
    rw [dif_pos hj]; exact (Classical.choose_spec (key j hj)).2

theorem flat_array {P : Program} {e t : TypeId} {m : Nat} (h : P.underlying e = some (.array m t)) (hi : P.underlying t = some (.int .i64)) (hci : P.cellsOf t = 1) (hc : P.cellsOf e = m) : Flat P e m := by
  refine ⟨hc, fun enc w base spare held fuel cs x hx => ?_⟩
  obtain ⟨xs, n, _, _, hcl, hxl, hat⟩ := DataW.trod_array h hx
  have key : ∀ j, j < m → ∃ z : Int, (cs.drop j).take 1 = [Value.int .i64 z] ∧ (Lit.int .i64 z).wf = true := by
    intro j hj
    have h1 := hat j hj
    rw [hci, Nat.mul_one] at h1
    have hx1 : xs[j]? = some (xs[j]'(by omega)) := List.getElem?_eq_getElem (by omega)
    rw [hx1] at h1
    obtain ⟨z, hz, _, hw⟩ := DataW.trod_int hi h1
    exact ⟨z, hz, hw⟩
  refine ⟨fun j => if hj : j < m then Classical.choose (key j hj) else 0, range_split cs m (hcl.trans hc) _ fun j hj => ?_, fun j hj => ?_⟩
  · rw [dif_pos hj]; exact (Classical.choose_spec (key j hj)).1
  · show (Lit.int .i64 (if hj : j < m then Classical.choose (key j hj) else 0)).wf = true
    rw [dif_pos hj]; exact (Classical.choose_spec (key j hj)).2

section
variable {H : Type} {enc : TypeId × Value → H} {P : Program} {w : World} {base : Nat} {spare : Nat → Bool} {held : Bool}

/-- A value of such a type. -/
theorem open_flat {t : TypeId} {m : Nat} {v : Value} {d : DataW H} {p : List MemPlace} (hF : Flat P t m) (hagg : ∃ cs, v = .agg cs) (h : DataW.Trod enc P w base spare held t v d p) :
    ∃ g : Nat → Int, v = .agg ((List.range m).map fun j => Value.int .i64 (g j)).toArray ∧ ∀ j, j < m → (Lit.int .i64 (g j)).wf = true := by
  obtain ⟨⟨cs⟩, rfl⟩ := hagg
  obtain ⟨fuel, hf⟩ := h
  obtain ⟨g, hg, hw⟩ := hF.2 enc w base spare held fuel _ _ hf
  simp only [Value.cells] at hg
  exact ⟨g, by rw [← hg], hw⟩

/-- A slice of elements of such a type. -/
theorem open_flats {t e : TypeId} {m : Nat} {a : Option Addr} {len cap : Nat} {d : DataW H} {p : List MemPlace} (ht : P.underlying t = some (.slice e)) (hF : Flat P e m) (h : DataW.Trod enc P w base spare held t (.slice a len cap) d p) :
    ∃ rows : List (Nat → Int), rows.length = len ∧ len ≤ cap ∧ len ≤ maxLen ∧ (∀ g ∈ rows, ∀ j, j < m → (Lit.int .i64 (g j)).wf = true) ∧
      (0 < len → ∃ ad, a = some ad ∧ ∀ i g, rows[i]? = some g → ∀ j, j < m → w.cell? (ad.add (i * m + j)) = some (.int .i64 (g j))) := by
  obtain ⟨fuel, hf⟩ := h
  rcases open_slice ht hf with ⟨hcs, _⟩ | ⟨ad, len', cap', m', n, D, Pl, hcs, _, hl, hm, hmm, _, hi⟩
  · simp [Value.cells] at hcs
    obtain ⟨rfl, rfl, rfl⟩ := hcs
    exact ⟨[], rfl, Nat.le_refl _, Nat.zero_le _, by simp, fun h => absurd h (by omega)⟩
  · simp [Value.cells] at hcs
    obtain ⟨rfl, rfl, rfl⟩ := hcs
    have hle : len ≤ m' := by rw [hmm]; split <;> omega
    have key : ∀ i, i < len → ∃ g : Nat → Int, (∀ j, j < m → w.cell? (ad.add (i * m + j)) = some (.int .i64 (g j))) ∧ ∀ j, j < m → (Lit.int .i64 (g j)).wf = true := by
      intro i hil
      obtain ⟨cs', hc, ht'⟩ := hi i (by omega)
      rw [hF.1] at hc
      obtain ⟨_, hcl, hat⟩ := World.cells?_some hc
      obtain ⟨g, rfl, hw⟩ := hF.2 enc w base spare held n _ _ ht'
      refine ⟨g, fun j hj => ?_, hw⟩
      rw [← Go.Deep.add_add, hat j hj]
      simp [hj]
    refine ⟨(List.range len).map fun i => if hil : i < len then Classical.choose (key i hil) else fun _ => 0, by simp, hl, Nat.le_trans hl hm, ?_, fun _ => ⟨ad, rfl, ?_⟩⟩
    · intro g hg j hj
      rw [List.mem_map] at hg
      obtain ⟨i, hi, rfl⟩ := hg
      have hil : i < len := by simpa using hi
      rw [dif_pos hil]
      exact (Classical.choose_spec (key i hil)).2 j hj
    · intro i g hg j hj
      have hil : i < len := by
        have := (List.getElem?_eq_some_iff.1 hg).1
        simpa using this
      have hg' : g = Classical.choose (key i hil) := by
        simp [hil] at hg
        exact hg.symm
      rw [hg']
      exact (Classical.choose_spec (key i hil)).1 j hj

/-- Its length, by the row's weights. -/
theorem sized_flats {t e : TypeId} {a : Option Addr} {len cap : Nat} {d : DataW H} {ps : List MemPlace} {ts : List TypeId} {ds : List (DataW H)} {j : Nat}
    (hsz : (DataW.weightsEach P ts ds).all (· ≤ reachBytes) = true) (ht : ts[j]? = some t) (hd : ds[j]? = some d) (hu : P.underlying t = some (.slice e)) {B : Nat} (hB : P.bytesOf e = B)
    (h : DataW.Trod enc P w base spare held t (.slice a len cap) d ps) : len * B ≤ 140737488351232 := by
  obtain ⟨fuel, hf⟩ := h
  rcases open_slice hu hf with ⟨hcs, _⟩ | ⟨ad, len', cap', m', n, D, Pl, hcs, _, hl, hm, hmm, hx, hi⟩
  · simp [Value.cells] at hcs
    obtain ⟨rfl, rfl, rfl⟩ := hcs
    simp
  · simp [Value.cells] at hcs
    obtain ⟨rfl, rfl, rfl⟩ := hcs
    obtain ⟨hx, _⟩ := Prod.mk.inj hx
    subst hx
    have z := sized_slice hsz ht hd hu
    rw [hB] at z
    simp only [List.length_map, List.length_range] at z
    exact Nat.le_trans (Nat.mul_le_mul_right _ (by omega)) z
end

/-- As the printed contracts take it. -/
theorem flats_C {α : Type} (d : Kd α) (mk : (Nat → Int) → α) {m : Nat} (hm : d.sz = m) (hK : ∀ (w : World) (g : Nat → Int), d.K w (mk g) ((List.range m).map fun j => Value.int .i64 (g j))) {w : World} {a : Option Addr} {len : Nat} {rows : List (Nat → Int)}
    (hl : rows.length = len) (hx : len ≤ maxLen) (h : 0 < len → ∃ ad, a = some ad ∧ ∀ i g, rows[i]? = some g → ∀ j, j < m → w.cell? (ad.add (i * m + j)) = some (.int .i64 (g j))) : d.C w a (rows.map mk).length (rows.map mk) := by
  refine ⟨rfl, by unfold maxLen at hx; rw [List.length_map]; omega, fun hn => ?_⟩
  obtain ⟨ad, e, hc⟩ := h (by rw [List.length_map] at hn; omega)
  refine ⟨ad, e, fun i p hp => ?_⟩
  rw [List.getElem?_map] at hp
  obtain ⟨g, hg, rfl⟩ := Option.map_eq_some_iff.1 hp
  refine ⟨_, by simp [hm], hK w g, fun j u hu => ?_⟩
  rw [List.getElem?_map] at hu
  obtain ⟨j', hj', rfl⟩ := Option.map_eq_some_iff.1 hu
  obtain ⟨hlt, rfl⟩ := List.getElem?_eq_some_iff.1 hj'
  simp only [List.length_range] at hlt
  rw [hm]
  simpa using hc i g hg j hlt
end Go.Proofs.Ytckhmeadflafaaa.Opening
