import Derived.Test.YtnnaepmjmpnimaaGreatDoorEng3
import Derived.Lib.Join
import Derived.Laws.IdiomCopy
import Derived.Sort.Row
import Derived.Sort.Grow
import Derived.Sort.EncStr
set_option linter.all false
set_option linter.unusedSimpArgs false
set_option linter.unusedVariables false
set_option linter.unusedSectionVars false
namespace Go.Ab
open Go Go.RowKit
variable [GI]
theorem argsA {X : Ctx} {args : List AV} {vs : Array Value} {F : Nat → Prop} (h : RelA X (.agg args) (.agg vs) F) : args.length = vs.size ∧ ∀ (j : Nat) (c : AV) (u : Value), args[j]? = some c → vs[j]? = some u → ∃ F', RelA X c u F' := by
  cases h with
  | pl c v F h hF =>
    cases h with
    | agg cs vs hl h => exact ⟨hl, fun j c u hj hu => ⟨_, .pl c u (fun _ => False) (h j c u hj hu) fun _ h => h⟩⟩
  | agg cs vs fs F hl h hd hF => exact ⟨hl, fun j c u hj hu => ⟨_, h j c u hj hu⟩⟩
theorem args2 {X : Ctx} {a b : AV} {vs : Array Value} {F : Nat → Prop} (h : RelA X (.agg [a, b]) (.agg vs) F) : ∃ u v, vs = #[u, v] ∧ (∃ F', RelA X a u F') ∧ ∃ F', RelA X b v F' := by
  obtain ⟨hl, hg⟩ := argsA h
  obtain ⟨l⟩ := vs
  match l, hl with
  | [u, v], _ => exact ⟨u, v, rfl, hg 0 a u rfl rfl, hg 1 b v rfl rfl⟩
theorem args1 {X : Ctx} {a : AV} {vs : Array Value} {F : Nat → Prop} (h : RelA X (.agg [a]) (.agg vs) F) : ∃ u, vs = #[u] ∧ ∃ F', RelA X a u F' := by
  obtain ⟨hl, hg⟩ := argsA h
  obtain ⟨l⟩ := vs
  match l, hl with
  | [u], _ => exact ⟨u, rfl, hg 0 a u rfl rfl⟩
theorem relA_str {X : Ctx} {l : Str} {v : Value} {F : Nat → Prop} (h : RelA X (.str l) v F) : v = sv l := by cases h with | pl _ _ _ h _ => exact h.str_inv
theorem relA_int {X : Ctx} {k n} {v : Value} {F : Nat → Prop} (h : RelA X (.int k n) v F) : v = .int k n := by cases h with | pl _ _ _ h _ => exact h.int_inv
theorem relA_u8 {X : Ctx} {b} {v : Value} {F : Nat → Prop} (h : RelA X (.u8 b) v F) : v = .int .u8 (b.toNat : Nat) := by cases h with | pl _ _ _ h _ => exact h.u8_inv
theorem relA_dat {X : Ctx} {d : Data} {v : Value} {F : Nat → Prop} (h : RelA X (.dat d) v F) : Rep X.w X.R (dataCD X.ety d) v := by
  cases h with
  | pl _ _ _ h _ => cases h with | dat d v h => exact h
theorem keep_of_below {w w' : World} {S : Nat → Prop} (h : Below w.heap.size w w') : Keep S w w' := ⟨h.os, h.tape, h.output, h.size, fun b hb _ => h.block b hb⟩
theorem fin_plain {P : Program} {ety : K → TypeId} {w w' : World} {R F : Nat → Prop} {e : Ending} {r : AV} {v : Value} {modes : List Md} {vs : List Value} (hio : inouts modes vs = []) (hR : ∀ b, R b → b < w.heap.size) (he : e = .returned v) (hb : Below w.heap.size w w') (hr : ∀ X, RelV X r v) :
    ∃ (v : Value) (R' F' : Nat → Prop), e = .returned v ∧ (∀ b, R b → R' b) ∧ (∀ b, R' b → b < w'.heap.size) ∧ (∀ b, R' b → R b ∨ w.heap.size ≤ b ∨ F b) ∧
      RelA (ctx0 ety w' R') (.agg (r :: [])) (.agg (v :: inouts modes vs).toArray) F' ∧ (∀ b, F' b → ¬ R' b) ∧ (∀ b, F' b → w.heap.size ≤ b ∨ F b) ∧ Keep F w w' := by
  refine ⟨v, R, fun _ => False, he, fun _ h => h, fun b h => Nat.lt_of_lt_of_le (hR b h) hb.size, fun b h => .inl h, ?_, fun _ h => h.elim, fun _ h => h.elim, keep_of_below hb⟩
  rw [hio]
  refine .pl _ _ _ (.agg _ _ rfl fun j c u hj hu => ?_) fun _ h => h
  match j, hj, hu with
  | 0, hj, hu => cases hj; cases hu; exact hr _
end Go.Ab
namespace Go.Ab
open Go
variable [GI]
theorem setCells_blk {g : Nat} {t : TypeId} {fz : Nat × Nat} : ∀ (vs : List Value) (o : Nat) (cur : Array Value) (w : World), w.heap[g]? = some (.cells cur t fz) → o + vs.length ≤ cur.size →
    ∃ cur' : Array Value, (w.setCells g o vs).heap[g]? = some (.cells cur' t fz) ∧ cur'.size = cur.size ∧ (∀ k : Nat, cur'[k]? = if o ≤ k ∧ k < o + vs.length then vs[k - o]? else cur[k]?) ∧ Keep (fun b => b = g) w (w.setCells g o vs)
  | [], o, cur, w, hg, hl => ⟨cur, hg, rfl, fun k => by rw [if_neg (by simp only [List.length_nil]; omega)], .refl _ _⟩
  | v :: rest, o, cur, w, hg, hl => by
    have hi : o < cur.size := by simp at hl; omega
    have hg' : (w.setCell ⟨g, o, none⟩ v).heap[g]? = some (.cells (cur.setIfInBounds o v) t fz) := by
      show (w.heap.modify g _)[g]? = _
      rw [Array.getElem?_modify, if_pos rfl, hg]
      rfl
    obtain ⟨cur', r2, r3, r4, r5⟩ := setCells_blk rest (o + 1) (cur.setIfInBounds o v) _ hg' (by simp at hl ⊢; omega)
    refine ⟨cur', r2, by rw [r3]; simp, fun k => ?_, (keep_setCell w g o v).trans r5⟩
    rw [r4 k]
    by_cases h1 : k = o
    · subst h1
      rw [if_neg (by omega), if_pos ⟨Nat.le_refl _, by simp⟩]
      simp [hi]
    · by_cases h2 : o + 1 ≤ k ∧ k < o + 1 + rest.length
      · rw [if_pos h2, if_pos (by simp only [List.length_cons]; omega)]
        have : k - o = (k - (o + 1)) + 1 := by omega
        rw [this]
        simp
      · rw [if_neg h2, if_neg (by simp only [List.length_cons]; omega)]
        rw [Array.getElem?_setIfInBounds, if_neg (fun e => h1 e.symm)]
theorem cell_blk {w : World} {g : Nat} {cur : Array Value} {t : TypeId} {fz : Nat × Nat} (h : w.heap[g]? = some (.cells cur t fz)) (k : Nat) : w.cell? ⟨g, k, none⟩ = cur[k]? := by
  simp [World.cell?, h]
def delS (n i j k : Nat) : Nat := if k < i * n then k else k + (j - i) * n
structure DelW (w w' : World) (g n cap i j esz : Nat) (cur : Array Value) (t : TypeId) (fz : Nat × Nat) : Prop where
  keep : Keep (fun b => b = g) w w'
  blk : ∃ cur' : Array Value, w'.heap[g]? = some (.cells cur' t fz) ∧ cur'.size = cur.size ∧ ∀ k, k < (n - (j - i)) * esz → cur'[k]? = cur[delS esz i j k]?
end Go.Ab
namespace Go.Ab
open Go
variable [GI]
end Go.Ab
namespace Go.Ab
open Go Go.Sort
variable [GI]
end Go.Ab
namespace Go.Ab
open Go
variable [GI]
structure Arr (w : World) (g : Nat) (t : TypeId) (fz : Nat × Nat) (esz : Nat) (cur : Array Value) (N : Nat) (τ : Nat → Nat) (wx : World) : Prop where
  keep : Keep (fun b => b = g) w wx
  blk : ∃ curx : Array Value, wx.heap[g]? = some (.cells curx t fz) ∧ curx.size = cur.size ∧ ∀ p c, p < N → c < esz → curx[p * esz + c]? = cur[τ p * esz + c]?
theorem Arr.cell {w wx : World} {g : Nat} {t : TypeId} {fz : Nat × Nat} {esz : Nat} {cur : Array Value} {N : Nat} {τ : Nat → Nat} (h : Arr w g t fz esz cur N τ wx) {p c : Nat} (hp : p < N) (hc : c < esz) {v : Value} (hv : cur[τ p * esz + c]? = some v) : wx.cell? ⟨g, p * esz + c, none⟩ = some v := by
  obtain ⟨_, curx, h2, _, h4⟩ := h
  rw [cell_blk h2, h4 p c hp hc]; exact hv
theorem Arr.set {w wx : World} {g : Nat} {t : TypeId} {fz : Nat × Nat} {esz : Nat} {cur : Array Value} {N : Nat} {τ : Nat → Nat} (h : Arr w g t fz esz cur N τ wx) {q m : Nat} (hq : q < N) (hN : N * esz ≤ cur.size) {vs : List Value} (hl : vs.length = esz) (hvs : ∀ c, c < esz → vs[c]? = cur[m * esz + c]?) :
    Arr w g t fz esz cur N (fun p => if p = q then m else τ p) (wx.setCells g (q * esz) vs) := by
  obtain ⟨h1, curx, h2, h3, h4⟩ := h
  have hqe : q * esz + esz ≤ N * esz := by rw [← Nat.succ_mul]; exact Nat.mul_le_mul_right _ hq
  obtain ⟨cury, b1, b2, b3, b4⟩ := setCells_blk (g := g) (t := t) (fz := fz) vs (q * esz) curx wx h2 (by rw [hl, h3]; omega)
  refine ⟨h1.trans b4, cury, b1, by rw [b2, h3], fun p c hp hc => ?_⟩
  rw [b3, hl]
  by_cases hpq : p = q
  · subst hpq
    rw [if_pos (by omega), if_pos rfl, Nat.add_sub_cancel_left]
    exact hvs c hc
  · rw [if_neg, if_neg hpq]
    · exact h4 p c hp hc
    · intro hh
      rcases Nat.lt_or_gt_of_ne hpq with hlt | hgt
      · have : p * esz + esz ≤ q * esz := by rw [← Nat.succ_mul]; exact Nat.mul_le_mul_right _ hlt
        omega
      · have : q * esz + esz ≤ p * esz := by rw [← Nat.succ_mul]; exact Nat.mul_le_mul_right _ hgt
        omega
end Go.Ab
