/- The reader of draws: each draw comes to an answer within its bounds. No conditions beyond those of the lemmas' own hypotheses. -/
import Derived.Test.YtckhmeadflafaaaGreatPlain
import Derived.Laws.BitsLemmas
import Derived.Test.YtckhmeadflafaaaGreatXFcx1
namespace Go.Proofs.YtckhmeadflafaaaGreat.PureDraw
open Go.RowKit YtckhmeadflafaaaGreat.XFc YtckhmeadflafaaaGreat.Plain YtckhmeadflafaaaGreatW.PrintWords YtckhmeadflafaaaGreatW.PrintLast YtckhmeadflafaaaGreatW.PrintMore
set_option linter.unusedVariables false

/-- Whole numbers that are bytes. -/
def Bytes (l : List Int) : Prop := ∀ x ∈ l, 0 ≤ x ∧ x ≤ 255
theorem bytes_of {l : List Int} (h : ∀ x ∈ l, (Lit.int .u8 x).wf = true) : Bytes l := by
 intro x hx
 have := h x hx
 have hmin : IntKind.u8.min = 0 := rfl
 have hmax : IntKind.u8.max = 255 := rfl
 simp only [Lit.wf, Bool.and_eq_true, decide_eq_true_eq] at this
 omega
theorem u64_wrap (n : Int) : IntKind.u64.wrap n = n % 18446744073709551616 := by simp [IntKind.wrap, IntKind.bits, IntKind.signed]
theorem low_byte (n : Int) : 0 ≤ wrap64 (Go.bits .and .u64 (IntKind.u64.wrap n / 1099511627776) 255) ∧ wrap64 (Go.bits .and .u64 (IntKind.u64.wrap n / 1099511627776) 255) ≤ 255 := by
 have h0 : 0 ≤ IntKind.u64.wrap n / 1099511627776 ∧ IntKind.u64.wrap n / 1099511627776 < 2 ^ 63 := by rw [u64_wrap]; omega
 have hw : ∀ m : Int, 0 ≤ m → m < 2 ^ 63 → IntKind.u64.wrap m = m := by intro m a b; rw [u64_wrap]; omega
 have key := bits_mask .u64 63 (by decide) hw 8 (by decide) _ h0.1 h0.2
 have e : ((2 : Int) ^ 8 - 1) = 255 := by decide
 have e2 : ((2 : Int) ^ 8) = 256 := by decide
 generalize IntKind.u64.wrap n / 1099511627776 = y at *
 clear h0 hw
 first | rw [e, e2] at key | (simp only [Int.reducePow, Int.reduceSub] at key)
 rw [key]
 clear key e e2
 have : 0 ≤ y % 256 ∧ y % 256 < 256 := by omega
 rw [w64 (by omega) (by omega)]
 omega
theorem rd_byte {l : List Int} (h : Bytes l) (i : Int) : 0 ≤ rd l i ∧ rd l i ≤ 255 := by
 unfold rd
 rw [List.getD_eq_getElem?_getD]
 cases e : l[i.toNat]? with
 | none => simp
 | some x => exact h x (List.mem_of_getElem? e)
theorem next_ev {l : List Int} (hl : Bytes l) (a s : Int) (h0 : 0 ≤ a) (h1 : a ≤ 4611686018427387904) : ∃ x s', spec_l1Cur_next.f l a s = some (x, a + 1, s') ∧ 0 ≤ x ∧ x ≤ 255 := by
 have hw : wrap64 (a + 1) = a + 1 := w64 (by omega) (by omega)
 unfold spec_l1Cur_next.f
 rw [hw]
 by_cases c : a < (l.length : Int)
 ·rw [if_pos c, if_pos h0, if_pos (by omega)]
  have hb := rd_byte hl a
  rw [w64 (x := rd l a) (by omega) (by omega)]
  exact ⟨_, _, rfl, hb⟩
 ·rw [if_neg c, if_neg (by omega)]
  exact ⟨_, _, rfl, low_byte _⟩
theorem pick_ev {l : List Int} (hl : Bytes l) (a s : Int) (h0 : 0 ≤ a) (h1 : a ≤ 4611686018427387000) (n : Int) (hn : n ≤ 1000) : ∃ x a' s', spec_l1Cur_pick.f l a s n = some (x, a', s') ∧ (0 ≤ x ∧ (1 ≤ n → x < n)) ∧ a ≤ a' ∧ a' ≤ a + 2 := by
 unfold spec_l1Cur_pick.f
 by_cases c : n ≤ 1
 ·rw [if_pos c]; exact ⟨0, a, s, rfl, ⟨by omega, by omega⟩, by omega, by omega⟩
 ·rw [if_neg c]
  obtain ⟨x, s1, e1, x0, x1⟩ := next_ev hl a s h0 (by omega)
  rw [e1]
  simp only [Option.bind_some]
  by_cases c2 : n > 200
  ·rw [if_pos c2]
   obtain ⟨y, s2, e2, y0, y1⟩ := next_ev hl (a + 1) s1 (by omega) (by omega)
   rw [e2]
   simp only [Option.bind_some]
   rw [if_neg (by omega)]
   have w1 : wrap64 (x * 256) = x * 256 := w64 (by omega) (by omega)
   have w2 : wrap64 (x * 256 + y) = x * 256 + y := w64 (by omega) (by omega)
   rw [w1, w2]
   refine ⟨_, _, _, rfl, ⟨Int.tmod_nonneg _ (by omega), fun _ => Int.tmod_lt_of_pos _ (by omega)⟩, by omega, by omega⟩
  ·rw [if_neg c2, if_neg (by omega)]
   refine ⟨_, _, _, rfl, ⟨Int.tmod_nonneg _ (by omega), fun _ => Int.tmod_lt_of_pos _ (by omega)⟩, by omega, by omega⟩
theorem among_ev {l : List Int} (hl : Bytes l) (a s : Int) (h0 : 0 ≤ a) (h1 : a ≤ 4611686018427387000) (L : List Int) (hL : 0 < L.length) (hL2 : L.length ≤ 1000) : ∃ x a' s', spec_l1Cur_among.f l a s L = some (x, a', s') ∧ x ∈ L ∧ a ≤ a' ∧ a' ≤ a + 2 := by
 unfold spec_l1Cur_among.f
 obtain ⟨x, a', s', e, ⟨x0, x1⟩, h2, h3⟩ := pick_ev hl a s h0 h1 (L.length : Int) (by omega)
 have x2 := x1 (by omega)
 rw [e]
 simp only [Option.bind_some]
 rw [if_pos x0, if_pos x2]
 refine ⟨_, _, _, rfl, ?_, h2, h3⟩
 obtain ⟨m, rfl⟩ := Int.eq_ofNat_of_zero_le x0
 have hm : m < L.length := by omega
 rw [rd_lt hm]
 exact List.getElem_mem hm
end Go.Proofs.YtckhmeadflafaaaGreat.PureDraw
