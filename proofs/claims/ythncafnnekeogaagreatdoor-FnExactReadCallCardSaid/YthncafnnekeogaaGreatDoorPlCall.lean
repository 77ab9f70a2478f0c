/- Plain: calls' texts are read; both ways are one. -/
import Derived.Test.YthncafnnekeogaaGreatDoorFnQ
import Derived.Test.YthncafnnekeogaaGreatDoorFnRp
set_option linter.all false
set_option linter.unusedSimpArgs false
set_option linter.unusedVariables false
set_option linter.unusedSectionVars false
set_option maxRecDepth 20000
set_option maxHeartbeats 1000000
namespace Go.Ab
open Go Go.Proofs.Tryz
open Go.Lib
/-- A text parted at its first blank. -/
def ct : Str → Str × Str
  | [] => ([], [])
  | x :: r => if x = 32 then ([], r) else (x :: (ct r).1, (ct r).2)
theorem ct_cut : ∀ s : Str, Lib.cut s [32] = ((ct s).1, (ct s).2, s.contains 32)
  | [] => by simp [Lib.cut, index, ct]
  | x :: r => by
    have ih := ct_cut r
    by_cases hx : x = 32
    · subst hx
      have hix : index (32 :: r) [32] = 0 := by rw [index]; simp [List.isPrefixOf]
      simp [Lib.cut, hix, ct]
    · have hp : ([32] : Str).isPrefixOf (x :: r) = false := by simp [List.isPrefixOf, Ne.symm hx]
      have hix : index (x :: r) [32] = if index r [32] == -1 then -1 else index r [32] + 1 := by rw [index, hp]; simp
      rw [ct, if_neg hx]
      unfold Lib.cut at ih ⊢
      rw [hix]
      by_cases hm : index r [32] = -1
      · rw [hm] at ih ⊢
        simp only [beq_self_eq_true, if_true] at ih ⊢
        have hneg : ¬ (0 : Int) ≤ -1 := by omega
        rw [if_neg hneg] at ih ⊢
        obtain ⟨h1, h2⟩ := Prod.mk.inj ih
        obtain ⟨h2, h3⟩ := Prod.mk.inj h2
        rw [← h1, ← h2, List.contains_cons, ← h3]
        simp [hx, Ne.symm hx]
      · have hge := index_ge r [32]
        obtain ⟨j, hj⟩ : ∃ j : Nat, index r [32] = j := ⟨(index r [32]).toNat, by omega⟩
        rw [hj] at ih ⊢
        have h1 : ((j : Int) == -1) = false := by rw [beq_eq_false_iff_ne]; omega
        rw [h1]
        simp only [Bool.false_eq_true, if_false]
        rw [if_pos (by omega)] at ih ⊢
        obtain ⟨h1, h2⟩ := Prod.mk.inj ih
        obtain ⟨h2, h3⟩ := Prod.mk.inj h2
        have e : ((j : Int) + 1).toNat = j + 1 := by omega
        rw [← h1, ← h2, List.contains_cons, ← h3, e]
        simp
theorem ct_len (s : Str) : (ct s).1.length + (ct s).2.length ≤ s.length := by
  induction s with
  | nil => simp [ct]
  | cons x r ih =>
    rw [ct]
    split
    · simp
    · simp only [List.length_cons]; omega
def noB (p : Str) : Prop := ∀ x ∈ p, x ≠ 32
theorem ct_app {p : Str} (h : noB p) (r : Str) : ct (p ++ 32 :: r) = (p, r) := by
  induction p with
  | nil => simp [ct]
  | cons x p ih =>
    rw [List.cons_append, ct, if_neg (h x List.mem_cons_self), ih fun y hy => h y (List.mem_cons_of_mem _ hy)]
theorem ct_end {p : Str} (h : noB p) : ct p = (p, []) := by
  induction p with
  | nil => rfl
  | cons x p ih =>
    rw [ct, if_neg (h x List.mem_cons_self), ih fun y hy => h y (List.mem_cons_of_mem _ hy)]
theorem ct_noB (s : Str) : noB (ct s).1 := by
  induction s with
  | nil => intro x hx; simp [ct] at hx
  | cons x r ih =>
    intro y hy
    rw [ct] at hy
    split at hy
    · simp at hy
    · rename_i h
      rcases List.mem_cons.1 hy with rfl | hy
      · exact h
      · exact ih y hy
theorem ct_back (s : Str) : (if (ct s).1.length = s.length then (ct s).1 else (ct s).1 ++ 32 :: (ct s).2) = s := by
  induction s with
  | nil => rfl
  | cons x r ih =>
    rw [ct]
    by_cases h : x = 32
    · rw [if_pos h, if_neg (by simp), h]; rfl
    · rw [if_neg h]
      simp only [List.length_cons, Nat.add_right_cancel_iff]
      by_cases hl : (ct r).1.length = r.length
      · rw [if_pos hl] at ih ⊢; rw [ih]
      · rw [if_neg hl] at ih ⊢; rw [List.cons_append, ih]
theorem ct_all {s : Str} (h : (ct s).1.length = s.length) : (ct s).1 = s ∧ (ct s).2 = [] := by
  have h1 := ct_back s
  have h2 := ct_len s
  rw [if_pos h] at h1
  exact ⟨h1, List.length_eq_zero_iff.1 (by omega)⟩
/-- The call that a text is, if it is one. -/
def rcC (t : Str) (k : Int) : Kall :=
  let q1 := ct (ct t).2
  let q2 := bif hasPath k then ct q1.2 else ([], q1.2)
  let q3 := bif hasName k then ct q2.2 else ([], q2.2)
  let q4 := bif hasConfig k then ct q3.2 else ([], q3.2)
  ⟨k, atoiV q1.1, bif hasConfig k then atoiV q4.1 else 0, bif hasPath k then (rpI q2.1).1 else [], q3.1, bif hasText k then q4.2 else []⟩
def kindI (t : Str) : Int := idx (callWordS.findIdx? fun y => decide (y = (ct t).1))
def kall0 : Kall := ⟨0, 0, 0, [], [], []⟩
def rcI (t : Str) : Kall × Bool := if kindI t < 1 then (kall0, false) else if callOK (rcC t (kindI t)) = true ∧ callText (rcC t (kindI t)) = t then (rcC t (kindI t), true) else (kall0, false)
/-- So many words with one blank behind each, and what is left. -/
def headS : Nat → Bool → Str → List Str × Str × Bool
  | 0, _, t => ([], t, true)
  | n + 1, b, t => if (ct t).1 = [] ∨ (decide (n = 0) && !b) ≠ decide ((ct t).1.length = t.length) then ([], [], false) else
    ((ct t).1 :: (headS n b (ct t).2).1, (headS n b (ct t).2).2)
def joinW : List Str → Str
  | [] => []
  | p :: ps => p ++ ps.flatMap fun q => 32 :: q
theorem joinW_cons (p q : Str) (ps : List Str) : joinW (p :: q :: ps) = p ++ 32 :: joinW (q :: ps) := by simp [joinW]
theorem headS_ok : ∀ (n : Nat) (b : Bool) (t : Str), (headS n b t).2.2 = true → (headS n b t).1.length = n ∧ (∀ p ∈ (headS n b t).1, p ≠ [] ∧ noB p) ∧
    (0 < n → t = joinW (headS n b t).1 ++ (if b then 32 :: (headS n b t).2.1 else [])) ∧ (0 < n → b = false → (headS n b t).2.1 = [])
  | 0, b, t, _ => ⟨rfl, fun p h => by simp [headS] at h, fun h => by omega, fun h => by omega⟩
  | n + 1, b, t, h => by
    rw [headS] at h ⊢
    by_cases hc : (ct t).1 = [] ∨ (decide (n = 0) && !b) ≠ decide ((ct t).1.length = t.length)
    · rw [if_pos hc] at h; cases h
    rw [if_neg hc] at h ⊢
    obtain ⟨h1, h2⟩ := not_or.1 hc
    have h2 : (decide (n = 0) && !b) = decide ((ct t).1.length = t.length) := Classical.not_not.1 h2
    obtain ⟨a1, a2, a3, a4⟩ := headS_ok n b (ct t).2 h
    have hb := ct_back t
    refine ⟨by simp [a1], fun p hp => ?_, fun _ => ?_, fun _ hbf => ?_⟩
    · rcases List.mem_cons.1 hp with rfl | hp
      · exact ⟨h1, ct_noB t⟩
      · exact a2 p hp
    · cases n with
      | zero =>
        cases b with
        | false =>
          have hl : (ct t).1.length = t.length := by simpa using h2.symm
          simp [headS, joinW, (ct_all hl).1]
        | true =>
          have hl : ¬ (ct t).1.length = t.length := by simpa using h2.symm
          rw [if_neg hl] at hb
          simp [headS, joinW, hb]
      | succ n =>
        have hl : ¬ (ct t).1.length = t.length := by simpa using h2.symm
        rw [if_neg hl] at hb
        have a3 := a3 (by omega)
        cases hw : (headS (n + 1) b (ct t).2).1 with
        | nil => rw [hw] at a1; simp at a1
        | cons p ps =>
          rw [hw] at a3
          rw [joinW_cons]
          conv => lhs; rw [← hb, a3]
          simp [List.append_assoc]
    · cases n with
      | zero =>
        subst hbf
        have hl : (ct t).1.length = t.length := by simpa using h2.symm
        simp [headS, (ct_all hl).2]
      | succ n => exact a4 (by omega) hbf
/-- What is put together so is parted so. -/
theorem headS_join : ∀ (w : List Str) (b : Bool) (r : Str), (∀ p ∈ w, p ≠ [] ∧ noB p) → w ≠ [] → headS w.length b (joinW w ++ (if b then 32 :: r else [])) = (w, if b then r else [], true)
  | [], b, r, _, h => absurd rfl h
  | [p], b, r, hw, _ => by
    obtain ⟨h1, h2⟩ := hw p List.mem_cons_self
    cases b with
    | true =>
      have e : joinW [p] ++ (if true = true then 32 :: r else []) = p ++ 32 :: r := by simp [joinW]
      rw [e, List.length_cons, headS, ct_app h2, List.length_nil]
      rw [if_neg (by rintro (h | h); exact h1 h; simp at h)]
      rfl
    | false =>
      have e : joinW [p] ++ (if false = true then 32 :: r else []) = p := by simp [joinW]
      rw [e, List.length_cons, headS, ct_end h2, List.length_nil]
      rw [if_neg (by rintro (h | h); exact h1 h; simp at h)]
      rfl
  | p :: q :: ps, b, r, hw, _ => by
    obtain ⟨h1, h2⟩ := hw p List.mem_cons_self
    have ih := headS_join (q :: ps) b r (fun x hx => hw x (List.mem_cons_of_mem _ hx)) (by simp)
    rw [joinW_cons, List.append_assoc, List.cons_append, List.length_cons, headS, ct_app h2]
    rw [if_neg (by rintro (h | h); exact h1 h; simp at h)]
    rw [ih]
theorem itoa_dg {n : Int} (h : 0 ≤ n) : itoa n = dg n := by unfold itoa dg; rw [if_neg (by omega)]
theorem dg_num {n : Int} (h0 : 0 ≤ n) (h : n ≤ 99) : numS (dg n) = some n := by
  apply atoi_numS (itoa_dg h0)
  have h1 := dg_len n (by omega)
  unfold trimPrefix
  split
  · rw [List.length_drop]; omega
  · omega
theorem num_dg {w : Str} {n : Int} (h : numS w = some n) (h0 : 0 ≤ n) : dg n = w := by
  rw [← itoa_dg h0]; exact (numS_atoi h).2.1
theorem dg_dig (n : Int) : (dg n).all digitB = true ∧ dg n ≠ [] := by
  obtain ⟨a1, a2, _⟩ := decD_all n.toNat
  exact ⟨a1, a2⟩
theorem dig_no {w : Str} (h : w.all digitB = true) {c : UInt8} (hc : digitB c = false) : ∀ x ∈ w, x ≠ c := fun x hx e => by
  have := List.all_eq_true.1 h x hx
  rw [e, hc] at this; cases this
theorem splitS_no {c : UInt8} : ∀ {w : Str}, (∀ x ∈ w, x ≠ c) → splitS c w = [w]
  | [], _ => rfl
  | x :: r, h => by
    rw [splitS, if_neg (h x List.mem_cons_self), splitS_no fun y hy => h y (List.mem_cons_of_mem _ hy)]
theorem splitS_app {c : UInt8} : ∀ {w : Str} (r : Str), (∀ x ∈ w, x ≠ c) → splitS c (w ++ c :: r) = w :: splitS c r
  | [], r, _ => by simp [splitS]
  | x :: w, r, h => by
    rw [List.cons_append, splitS, if_neg (h x List.mem_cons_self), splitS_app r fun y hy => h y (List.mem_cons_of_mem _ hy)]
theorem joinS_one (x sep : Str) : joinS [x] sep = x := by simp [joinS, Lib.join, List.intercalate, List.intersperse]
theorem joinS_cons (x y : Str) (l : List Str) (sep : Str) : joinS (x :: y :: l) sep = x ++ sep ++ joinS (y :: l) sep := by simp [joinS, Lib.join, List.intercalate, List.intersperse]
theorem split_join {c : UInt8} : ∀ {l : List Str}, l ≠ [] → (∀ w ∈ l, ∀ x ∈ w, x ≠ c) → splitS c (joinS l [c]) = l
  | [], h, _ => absurd rfl h
  | [w], _, h => by rw [joinS_one]; exact splitS_no (h w List.mem_cons_self)
  | w :: v :: l, _, h => by
    rw [joinS_cons, List.append_assoc, List.singleton_append, splitS_app _ (h w List.mem_cons_self), split_join (by simp) fun u hu => h u (List.mem_cons_of_mem _ hu)]
theorem join_split (c : UInt8) : ∀ s : Str, joinS (splitS c s) [c] = s
  | [] => by simp [splitS, joinS_one]
  | x :: r => by
    have ih := join_split c r
    rw [splitS]
    cases hs : splitS c r with
    | nil => exact absurd hs (splitS_ne c r)
    | cons a t =>
      rw [hs] at ih
      by_cases hx : x = c
      · rw [if_pos hx, joinS_cons, ih, hx]; simp
      · rw [if_neg hx]
        cases t with
        | nil => rw [joinS_one] at ih ⊢; rw [ih]
        | cons b t => rw [joinS_cons] at ih ⊢; rw [← ih]; simp
theorem pathText_read {p : List Int} (h : isPath p = true) : rpI (pathText p) = (p, true) ∧ rpS (pathText p) = (p, true) := by
  obtain ⟨h1, h2⟩ := isPath_in h
  by_cases hp : p = []
  · subst hp
    have e : pathText [] = [45] := rfl
    rw [e]
    exact ⟨by rw [rpI, if_pos rfl], by rw [rpS, if_pos rfl]⟩
  have hsp : splitS 46 (pathText p) = p.map dg := by
    rw [pathText, if_neg hp]
    exact split_join (by simpa using hp) fun w hw => by
      obtain ⟨x, _, rfl⟩ := List.mem_map.1 hw
      exact dig_no (dg_dig x).1 (by rfl)
  have hnum : ∀ x ∈ p, numS (dg x) = some x := fun x hx => dg_num (h2 x hx).1 (by have := (h2 x hx).2; omega)
  have hne : pathText p ≠ [45] := fun e => by
    rw [e] at hsp
    cases p with
    | nil => exact hp rfl
    | cons x p =>
      have : splitS 46 [45] = [[45]] := by rfl
      rw [this, List.map_cons] at hsp
      have := (dg_dig x).1
      rw [← (List.cons.inj hsp).1] at this
      cases this
  have hok : (p.map dg).all numOK = true := by
    rw [List.all_eq_true]; intro w hw
    obtain ⟨x, hx, rfl⟩ := List.mem_map.1 hw
    unfold numOK; rw [hnum x hx]; rfl
  have hv : (p.map dg).map numV = p := by
    rw [List.map_map]
    have : ∀ x ∈ p, (numV ∘ dg) x = id x := fun x hx => by simp [numV, hnum x hx]
    rw [List.map_congr_left this, List.map_id]
  have hv2 : (p.map dg).map atoiV = p := by
    rw [List.map_map]
    have : ∀ x ∈ p, (atoiV ∘ dg) x = id x := fun x hx => by
      show atoiV (dg x) = x
      rw [atoiV_num (List.all_eq_true.1 hok _ (List.mem_map_of_mem hx))]
      simp [numV, hnum x hx]
    rw [List.map_congr_left this, List.map_id]
  have hokP : (p.map dg).all numP = true := by
    rw [List.all_eq_true]; intro w hw
    obtain ⟨x, hx, rfl⟩ := List.mem_map.1 hw
    unfold numP numOK numV; rw [hnum x hx]
    simpa using (h2 x hx).1
  refine ⟨?_, ?_⟩
  · rw [rpI, if_neg hne, hsp, if_pos hok, hv2, h]
  · rw [rpS, if_neg hne, hsp, if_pos hokP, hv, h]
theorem path_back {s : Str} {p : List Int} (h : rpS s = (p, true)) : pathText p = s := by
  unfold rpS at h
  by_cases hs : s = [45]
  · rw [if_pos hs] at h
    cases h
    rw [hs]; rfl
  rw [if_neg hs] at h
  split at h
  · rename_i ha
    obtain ⟨h1, h2⟩ := Prod.mk.inj h
    subst h1
    have hne : (splitS 46 s).map numV ≠ [] := by simpa using splitS_ne 46 s
    rw [pathText, if_neg hne, List.map_map]
    have : ∀ w ∈ splitS 46 s, (dg ∘ numV) w = id w := fun w hw => by
      have := List.all_eq_true.1 ha w hw
      unfold numP numOK at this
      rw [Bool.and_eq_true] at this
      cases hn : numS w with
      | none => rw [hn] at this; cases this.1
      | some v =>
        have h0 : numV w = v := by unfold numV; rw [hn]; rfl
        rw [h0] at this
        simp only [Function.comp, h0, id]
        exact num_dg hn (of_decide_eq_true this.2)
    rw [List.map_congr_left this, List.map_id, join_split]
  · cases h
theorem atoi_dg {n : Int} (h0 : 0 ≤ n) (h : n ≤ 99) : atoiV (dg n) = n ∧ numV (dg n) = n ∧ numOK (dg n) = true := by
  have hn := dg_num h0 h
  have ho : numOK (dg n) = true := by unfold numOK; rw [hn]; rfl
  have hv : numV (dg n) = n := by unfold numV; rw [hn]; rfl
  exact ⟨by rw [atoiV_num ho, hv], hv, ho⟩
theorem dg_noB (n : Int) : noB (dg n) := dig_no (dg_dig n).1 (by rfl)
theorem tag_noB {m : Str} (h : tagOK m = true) : noB m := by
  intro x hx e
  rw [tagOK, Bool.and_eq_true] at h
  obtain ⟨j, hj, he⟩ := List.getElem_of_mem hx
  have := List.all_eq_true.1 h.2 j (List.mem_range.2 hj)
  unfold tagAt at this
  have e2 : m.getD j 0 = 32 := by simp [List.getD, hj, he, e]
  rw [e2] at this
  unfold tagB at this
  simp [rngB] at this
theorem join_mem {x c : UInt8} : ∀ {l : List Str}, x ∈ joinS l [c] → x = c ∨ ∃ w ∈ l, x ∈ w
  | [], h => by simp [joinS_nil] at h
  | [w], h => by rw [joinS_one] at h; exact .inr ⟨w, List.mem_cons_self, h⟩
  | w :: v :: l, h => by
    rw [joinS_cons, List.append_assoc, List.mem_append, List.mem_append] at h
    rcases h with h | h | h
    · exact .inr ⟨w, List.mem_cons_self, h⟩
    · exact .inl (by simpa using h)
    · rcases join_mem h with e | ⟨u, hu, hx⟩
      · exact .inl e
      · exact .inr ⟨u, List.mem_cons_of_mem _ hu, hx⟩
theorem path_noB (p : List Int) : noB (pathText p) ∧ pathText p ≠ [] := by
  by_cases hp : p = []
  · subst hp
    exact ⟨fun x hx => by
      have : x = 45 := by simpa [pathText] using hx
      subst this; decide, by simp [pathText]⟩
  rw [pathText, if_neg hp]
  refine ⟨fun x hx e => ?_, fun e => ?_⟩
  · rcases join_mem hx with h | ⟨w, hw, hx⟩
    · rw [h] at e; cases e
    · obtain ⟨y, _, rfl⟩ := List.mem_map.1 hw
      exact dg_noB y x hx e
  · cases p with
    | nil => exact hp rfl
    | cons y p =>
      cases p with
      | nil =>
        rw [List.map_cons, List.map_nil, joinS_one] at e
        exact (dg_dig y).2 e
      | cons z p =>
        rw [List.map_cons, List.map_cons, joinS_cons] at e
        have := congrArg List.length e
        simp at this
theorem call_name {k d g : Int} {p : List Int} {m t : Str} (h : callOK ⟨k, d, g, p, m, t⟩ = true) (hn : hasName k = true) : tagOK m = true := by
  rw [callOK_alt] at h
  simp only [Bool.and_eq_true] at h
  rw [hn] at h
  exact h.2
theorem call_conf {k d g : Int} {p : List Int} {m t : Str} (h : callOK ⟨k, d, g, p, m, t⟩ = true) (hn : hasConfig k = false) : g = 0 := by
  rw [callOK_alt] at h
  simp only [Bool.and_eq_true] at h
  rw [hn] at h
  have := h.1.1.1.1.2
  simpa using this
set_option maxHeartbeats 4000000 in
/-- What the program reads of a call's text. -/
theorem rcI_back {c : Kall} (h : callOK c = true) : rcI (callText c) = (c, true) := by
  obtain ⟨k, d, g, p, m, t⟩ := c
  obtain ⟨⟨k1, k2⟩, ⟨d1, d2⟩, fn, fn0, ft, fp, fp0, fg⟩ := call_facts h
  have hN := call_name h
  have hC := call_conf h
  have hk : k = 1 ∨ k = 2 ∨ k = 3 ∨ k = 4 ∨ k = 5 ∨ k = 6 ∨ k = 7 ∨ k = 8 ∨ k = 9 := by omega
  obtain ⟨a1, _, _⟩ := atoi_dg d1 (by omega)
  have b1 := dg_noB d
  have b2 := (path_noB p).1
  have b3 := (pathText_read fp).1
  have key : kindI (callText ⟨k, d, g, p, m, t⟩) = k ∧ rcC (callText ⟨k, d, g, p, m, t⟩) k = ⟨k, d, g, p, m, t⟩ := by
    clear h
    rcases hk with rfl | rfl | rfl | rfl | rfl | rfl | rfl | rfl | rfl
    all_goals
      (try (obtain rfl := fn0 rfl)); (try (obtain rfl := ft rfl)); (try (obtain rfl := fp0 rfl)); (try (obtain rfl := hC rfl))
      (try (have b4 := tag_noB (hN rfl))); (try (have fg := fg rfl; have a2 := (atoi_dg fg.1 (show g ≤ 99 by omega)).1; have b5 := dg_noB g))
      first
        | (refine ⟨?_, ?_⟩
           · simp [kindI, callText, gd, callWordS, ct, List.findIdx?, List.findIdx?.go, idx]
           · simp [rcC, callText, gd, callWordS, ct, pt, hasPath, hasName, hasConfig, hasText, within, ct_app, ct_end, *])
  unfold rcI
  rw [key.1, if_neg (by omega), key.2, if_pos ⟨h, rfl⟩]
/-- Whether a text begins with a word and a blank. -/
def matchT (t w : Str) : Bool := decide (w.length < t.length) && (decide (t.take w.length = w) && decide (t.getD w.length 0 = 32))
theorem match_yes {t w : Str} (h : matchT t w = true) : ∃ r, t = w ++ 32 :: r := by
  simp only [matchT, Bool.and_eq_true, decide_eq_true_eq] at h
  obtain ⟨h1, h2, h3⟩ := h
  have e : t.getD w.length 0 = t[w.length] := by simp [List.getD, h1]
  refine ⟨t.drop (w.length + 1), ?_⟩
  conv => lhs; rw [← List.take_append_drop w.length t, h2, List.drop_eq_getElem_cons h1, ← e, h3]
theorem match_app (w r : Str) : matchT (w ++ 32 :: r) w = true := by
  simp [matchT, List.getD]
theorem match_ct {t w : Str} (hw : noB w) (h : matchT t w = true) : (ct t).1 = w := by
  obtain ⟨r, rfl⟩ := match_yes h
  rw [ct_app hw]
def kindS (t : Str) : Int := (List.range 9).foldl (fun (k : Int) i => bif matchT t (callWordT.getD i []) then (i : Int) + 1 else k) 0
theorem wordT_noB {i : Nat} (h : i < 9) : noB (callWordT.getD i []) := by
  have : ∀ i : Fin 9, ∀ x ∈ callWordT.getD i.val [], x ≠ 32 := by decide
  exact this ⟨i, h⟩
theorem wordT_inj {i j : Nat} (hi : i < 9) (hj : j < 9) (h : callWordT.getD i [] = callWordT.getD j []) : i = j := by
  have : ∀ i j : Fin 9, callWordT.getD i.val [] = callWordT.getD j.val [] → i = j := by decide
  exact congrArg Fin.val (this ⟨i, hi⟩ ⟨j, hj⟩ h)
theorem fold_last {p : Nat → Bool} : ∀ n : Nat, (∀ i j, i < n → j < n → p i = true → p j = true → i = j) → ((List.range n).foldl (fun (k : Int) i => bif p i then (i : Int) + 1 else k) 0 = 0 ∧ ∀ i, i < n → p i = false) ∨
    ∃ i, i < n ∧ p i = true ∧ (List.range n).foldl (fun (k : Int) i => bif p i then (i : Int) + 1 else k) 0 = (i : Int) + 1
  | 0, _ => .inl ⟨rfl, fun i h => by omega⟩
  | n + 1, h => by
    rw [List.range_succ, List.foldl_append]
    simp only [List.foldl_cons, List.foldl_nil]
    cases hp : p n with
    | true => exact .inr ⟨n, by omega, hp, rfl⟩
    | false =>
      rcases fold_last n (fun i j hi hj => h i j (by omega) (by omega)) with ⟨h1, h2⟩ | ⟨i, hi, h1, h2⟩
      · refine .inl ⟨by rw [h1]; rfl, fun i hi => ?_⟩
        rcases Nat.lt_or_eq_of_le (Nat.le_of_lt_succ hi) with h' | rfl
        · exact h2 i h'
        · exact hp
      · exact .inr ⟨i, by omega, h1, by rw [h2]; rfl⟩
theorem kindS_cases (t : Str) : kindS t = 0 ∨ ∃ i, i < 9 ∧ matchT t (callWordT.getD i []) = true ∧ kindS t = (i : Int) + 1 := by
  rcases fold_last (p := fun i => matchT t (callWordT.getD i [])) 9 (fun i j hi hj h1 h2 => wordT_inj hi hj (by rw [← match_ct (wordT_noB hi) h1, match_ct (wordT_noB hj) h2])) with ⟨h, _⟩ | ⟨i, h1, h2, h3⟩
  · exact .inl h
  · exact .inr ⟨i, h1, h2, h3⟩
theorem kindS_app {i : Nat} (h : i < 9) (r : Str) : kindS (callWordT.getD i [] ++ 32 :: r) = (i : Int) + 1 := by
  rcases fold_last (p := fun j => matchT (callWordT.getD i [] ++ 32 :: r) (callWordT.getD j [])) 9 (fun i j hi hj h1 h2 => wordT_inj hi hj (by rw [← match_ct (wordT_noB hi) h1, match_ct (wordT_noB hj) h2])) with ⟨_, h0⟩ | ⟨j, h1, h2, h3⟩
  · have := h0 i h
    rw [match_app] at this; cases this
  · have : callWordT.getD i [] = callWordT.getD j [] := by
      have := match_ct (wordT_noB h1) h2
      rw [ct_app (wordT_noB h)] at this
      exact this
    have := wordT_inj h h1 this
    subst this
    exact h3
def rcN (k : Int) (w : List Str) : Str := bif decide (k = 1) then w.getD 2 [] else bif decide (gd partN 0 (k - 1) = 4) then w.getD 3 [] else []
def rcK (k : Int) (w : List Str) (r : Str) : Kall := ⟨k, numV (w.getD 1 []), bif hasConfig k then numV (w.getD 2 []) else 0, bif hasPath k then (rpS (w.getD 2 [])).1 else [], rcN k w, r⟩
def rcB (k : Int) (w : List Str) : Bool := bif hasPath k then (rpS (w.getD 2 [])).2 else bif hasConfig k then numOK (w.getD 2 []) else true
def rcS (t : Str) : Kall × Bool :=
  if kindS t = 0 then (kall0, false) else
  if (headS (gd partN 0 (kindS t - 1)).toNat (hasText (kindS t)) t).2.2 = false then (⟨kindS t, 0, 0, [], [], []⟩, false) else
  (rcK (kindS t) (headS (gd partN 0 (kindS t - 1)).toNat (hasText (kindS t)) t).1 (headS (gd partN 0 (kindS t - 1)).toNat (hasText (kindS t)) t).2.1,
    rcB (kindS t) (headS (gd partN 0 (kindS t - 1)).toNat (hasText (kindS t)) t).1 && numOK ((headS (gd partN 0 (kindS t - 1)).toNat (hasText (kindS t)) t).1.getD 1 []) && callOK (rcK (kindS t) (headS (gd partN 0 (kindS t - 1)).toNat (hasText (kindS t)) t).1 (headS (gd partN 0 (kindS t - 1)).toNat (hasText (kindS t)) t).2.1))
theorem rcS_of {t : Str} {k : Int} {n : Nat} {w : List Str} {r : Str} (hk : kindS t = k) (h0 : k ≠ 0) (hn : (gd partN 0 (k - 1)).toNat = n) (hh : headS n (hasText k) t = (w, r, true)) : rcS t = (rcK k w r, rcB k w && numOK (w.getD 1 []) && callOK (rcK k w r)) := by
  unfold rcS
  rw [hk, if_neg h0, hn, hh]
  rfl
set_option maxHeartbeats 4000000 in
theorem rcS_back {c : Kall} (h : callOK c = true) : rcS (callText c) = (c, true) := by
  obtain ⟨k, d, g, p, m, t⟩ := c
  obtain ⟨⟨k1, k2⟩, ⟨d1, d2⟩, fn, fn0, ft, fp, fp0, fg⟩ := call_facts h
  have hN := call_name h
  have hC := call_conf h
  have hk : k = 1 ∨ k = 2 ∨ k = 3 ∨ k = 4 ∨ k = 5 ∨ k = 6 ∨ k = 7 ∨ k = 8 ∨ k = 9 := by omega
  obtain ⟨a1, a2, a3⟩ := atoi_dg d1 (by omega)
  have b1 : dg d ≠ [] ∧ noB (dg d) := ⟨(dg_dig d).2, dg_noB d⟩
  have b2 : pathText p ≠ [] ∧ noB (pathText p) := ⟨(path_noB p).2, (path_noB p).1⟩
  have b3 := (pathText_read fp).2
  have hw : ∀ i, i < 9 → callWordT.getD i [] ≠ [] := by
    intro i hi
    have : ∀ i : Fin 9, callWordT.getD i.val [] ≠ [] := by decide
    exact this ⟨i, hi⟩
  have go : ∀ (i : Nat) (w : List Str) (b : Bool) (n : Nat), i < 9 → k = (i : Int) + 1 → (∀ q ∈ w, q ≠ [] ∧ noB q) → callText ⟨k, d, g, p, m, t⟩ = joinW (callWordT.getD i [] :: dg d :: w) ++ (if b then 32 :: t else []) → hasText k = b → (gd partN 0 (k - 1)).toNat = n → w.length + 2 = n →
      rcK k (callWordT.getD i [] :: dg d :: w) (if b then t else []) = ⟨k, d, g, p, m, t⟩ → rcB k (callWordT.getD i [] :: dg d :: w) = true → rcS (callText ⟨k, d, g, p, m, t⟩) = (⟨k, d, g, p, m, t⟩, true) := by
    intro i w b n hi hki hq he hb hn hl hK hB
    rw [rcS_of (k := k) (n := n) (w := callWordT.getD i [] :: dg d :: w) (r := if b then t else []) ?_ (by omega) hn ?_, hK, hB, h]
    · rw [show (callWordT.getD i [] :: dg d :: w).getD 1 [] = dg d from rfl, a3]; rfl
    · rw [he, joinW_cons, List.append_assoc, List.cons_append, kindS_app hi, hki]
    · rw [he, hb]
      have := headS_join (callWordT.getD i [] :: dg d :: w) b t (fun q hq' => by
        rcases List.mem_cons.1 hq' with rfl | hq'
        · exact ⟨hw i hi, wordT_noB hi⟩
        · rcases List.mem_cons.1 hq' with rfl | hq'
          · exact b1
          · exact hq q hq') (by simp)
      rw [show (callWordT.getD i [] :: dg d :: w).length = n by simp; omega] at this
      exact this
  rcases hk with rfl | rfl | rfl | rfl | rfl | rfl | rfl | rfl | rfl
  all_goals
    (try (obtain rfl := fn0 rfl)); (try (obtain rfl := ft rfl)); (try (obtain rfl := fp0 rfl)); (try (obtain rfl := hC rfl))
    (try (have b4 := tag_noB (hN rfl); have b6 := fn rfl)); (try (have fg := fg rfl; have a4 := atoi_dg fg.1 (show g ≤ 99 by omega); have b5 : dg g ≠ [] ∧ noB (dg g) := ⟨(dg_dig g).2, dg_noB g⟩))
  · exact go 0 [m] false 3 (by omega) rfl (by simpa using ⟨b6, b4⟩) (by simp [callText, callWordS, callWordT, joinW, pt, hasPath, hasName, hasConfig, hasText, within, gd, partN]) rfl rfl rfl (by simp [rcK, rcN, hasPath, hasName, hasConfig, hasText, within, gd, partN, *]) (by simp [rcB, hasPath, hasName, hasConfig, hasText, within, gd, partN, *])
  · exact go 1 [pathText p, m] false 4 (by omega) rfl (by simpa using ⟨b2, b6, b4⟩) (by simp [callText, callWordS, callWordT, joinW, pt, hasPath, hasName, hasConfig, hasText, within, gd, partN]) rfl rfl rfl (by simp [rcK, rcN, hasPath, hasName, hasConfig, hasText, within, gd, partN, *]) (by simp [rcB, hasPath, hasName, hasConfig, hasText, within, gd, partN, *])
  · exact go 2 [pathText p] true 3 (by omega) rfl (by simpa using b2) (by simp [callText, callWordS, callWordT, joinW, pt, hasPath, hasName, hasConfig, hasText, within, gd, partN]) rfl rfl rfl (by simp [rcK, rcN, hasPath, hasName, hasConfig, hasText, within, gd, partN, *]) (by simp [rcB, hasPath, hasName, hasConfig, hasText, within, gd, partN, *])
  · exact go 3 [pathText p, m] true 4 (by omega) rfl (by simpa using ⟨b2, b6, b4⟩) (by simp [callText, callWordS, callWordT, joinW, pt, hasPath, hasName, hasConfig, hasText, within, gd, partN]) rfl rfl rfl (by simp [rcK, rcN, hasPath, hasName, hasConfig, hasText, within, gd, partN, *]) (by simp [rcB, hasPath, hasName, hasConfig, hasText, within, gd, partN, *])
  · exact go 4 [pathText p] false 3 (by omega) rfl (by simpa using b2) (by simp [callText, callWordS, callWordT, joinW, pt, hasPath, hasName, hasConfig, hasText, within, gd, partN]) rfl rfl rfl (by simp [rcK, rcN, hasPath, hasName, hasConfig, hasText, within, gd, partN, *]) (by simp [rcB, hasPath, hasName, hasConfig, hasText, within, gd, partN, *])
  · exact go 5 [dg g] true 3 (by omega) rfl (by simpa using b5) (by simp [callText, callWordS, callWordT, joinW, pt, hasPath, hasName, hasConfig, hasText, within, gd, partN]) rfl rfl rfl (by simp [rcK, rcN, hasPath, hasName, hasConfig, hasText, within, gd, partN, *]) (by simp [rcB, hasPath, hasName, hasConfig, hasText, within, gd, partN, *])
  · exact go 6 [] true 2 (by omega) rfl (by simp) (by simp [callText, callWordS, callWordT, joinW, pt, hasPath, hasName, hasConfig, hasText, within, gd, partN]) rfl rfl rfl (by simp [rcK, rcN, hasPath, hasName, hasConfig, hasText, within, gd, partN, *]) (by simp [rcB, hasPath, hasName, hasConfig, hasText, within, gd, partN, *])
  · exact go 7 [dg g] false 3 (by omega) rfl (by simpa using b5) (by simp [callText, callWordS, callWordT, joinW, pt, hasPath, hasName, hasConfig, hasText, within, gd, partN]) rfl rfl rfl (by simp [rcK, rcN, hasPath, hasName, hasConfig, hasText, within, gd, partN, *]) (by simp [rcB, hasPath, hasName, hasConfig, hasText, within, gd, partN, *])
  · exact go 8 [] false 2 (by omega) rfl (by simp) (by simp [callText, callWordS, callWordT, joinW, pt, hasPath, hasName, hasConfig, hasText, within, gd, partN]) rfl rfl rfl (by simp [rcK, rcN, hasPath, hasName, hasConfig, hasText, within, gd, partN, *]) (by simp [rcB, hasPath, hasName, hasConfig, hasText, within, gd, partN, *])
set_option maxHeartbeats 4000000 in
/-- What the reference reads is the call that the text is. -/
theorem rcS_ok {t : Str} {c : Kall} (h : rcS t = (c, true)) : callOK c = true ∧ callText c = t := by
  rcases kindS_cases t with h0 | ⟨i, hi, hm, hk⟩
  · unfold rcS at h
    rw [if_pos h0] at h
    cases (Prod.mk.inj h).2
  have hw0 := match_ct (wordT_noB hi) hm
  have hh : (headS (gd partN 0 (kindS t - 1)).toNat (hasText (kindS t)) t).2.2 = true := by
    cases hh : (headS (gd partN 0 (kindS t - 1)).toNat (hasText (kindS t)) t).2.2 with
    | true => rfl
    | false =>
      unfold rcS at h
      rw [if_neg (by omega), if_pos hh] at h
      cases (Prod.mk.inj h).2
  obtain ⟨e1, e2, e3, e4⟩ := headS_ok _ _ _ hh
  have hr := rcS_of (k := kindS t) (w := (headS (gd partN 0 (kindS t - 1)).toNat (hasText (kindS t)) t).1) (r := (headS (gd partN 0 (kindS t - 1)).toNat (hasText (kindS t)) t).2.1) rfl (by omega) rfl (by rw [← hh])
  rw [h] at hr
  rw [hk] at e1 e2 e3 e4 hr
  generalize (headS (gd partN 0 ((i : Int) + 1 - 1)).toNat (hasText ((i : Int) + 1)) t).1 = w at e1 e2 e3 e4 hr
  generalize (headS (gd partN 0 ((i : Int) + 1 - 1)).toNat (hasText ((i : Int) + 1)) t).2.1 = r at e3 e4 hr
  obtain ⟨hc, hb⟩ := Prod.mk.inj hr
  have hb := hb.symm
  rw [Bool.and_eq_true, Bool.and_eq_true] at hb
  obtain ⟨⟨hb1, hb2⟩, hb3⟩ := hb
  rw [← hc] at hb3
  refine ⟨hb3, ?_⟩
  obtain ⟨_, ⟨d1, d2⟩, fn, fn0, ft, fp, fp0, fg⟩ := call_facts (k := c.kind) (d := c.doc) (g := c.config) (p := c.path) (m := c.name) (t := c.text) hb3
  have num : ∀ {x : Str}, numOK x = true → 0 ≤ numV x → dg (numV x) = x := fun {x} h1 h2 => by
    unfold numOK at h1
    cases hn : numS x with
    | none => rw [hn] at h1; cases h1
    | some v =>
      have e : numV x = v := by unfold numV; rw [hn]; rfl
      rw [e] at h2 ⊢
      exact num_dg hn h2
  have hpb : ∀ {x : Str}, (rpS x).2 = true → pathText (rpS x).1 = x := fun {x} h1 => path_back (by rw [← h1])
  have hi9 : i = 0 ∨ i = 1 ∨ i = 2 ∨ i = 3 ∨ i = 4 ∨ i = 5 ∨ i = 6 ∨ i = 7 ∨ i = 8 := by omega
  rcases hi9 with rfl | rfl | rfl | rfl | rfl | rfl | rfl | rfl | rfl
  · obtain ⟨w0, w1, w2, rfl⟩ : ∃ w0 w1 w2, w = [w0, w1, w2] := by
      have e1 : w.length = 3 := e1
      match w, e1 with
      | [w0, w1, w2], _ => exact ⟨w0, w1, w2, rfl⟩
    have e3 := e3 (by decide)
    have hw : w0 = callWordT.getD 0 [] := by
      rw [← hw0, e3]
      simp only [joinW, List.flatMap_cons, List.cons_append, List.append_assoc]
      rw [ct_app (e2 w0 (by simp)).2]
    have hd := num (x := w1) hb2 (by rw [hc] at d1; exact d1)
    rw [hc, e3, hw]
    simp [callText, rcK, rcN, callWordS, callWordT, joinW, pt, hasPath, hasName, hasConfig, hasText, within, gd, partN, hd]
  · obtain ⟨w0, w1, w2, w3, rfl⟩ : ∃ w0 w1 w2 w3, w = [w0, w1, w2, w3] := by
      have e1 : w.length = 4 := e1
      match w, e1 with
      | [w0, w1, w2, w3], _ => exact ⟨w0, w1, w2, w3, rfl⟩
    have e3 := e3 (by decide)
    have hw : w0 = callWordT.getD 1 [] := by
      rw [← hw0, e3]
      simp only [joinW, List.flatMap_cons, List.cons_append, List.append_assoc]
      rw [ct_app (e2 w0 (by simp)).2]
    have hd := num (x := w1) hb2 (by rw [hc] at d1; exact d1)
    have hp := hpb (x := w2) hb1
    rw [hc, e3, hw]
    simp [callText, rcK, rcN, callWordS, callWordT, joinW, pt, hasPath, hasName, hasConfig, hasText, within, gd, partN, hd, hp]
  · obtain ⟨w0, w1, w2, rfl⟩ : ∃ w0 w1 w2, w = [w0, w1, w2] := by
      have e1 : w.length = 3 := e1
      match w, e1 with
      | [w0, w1, w2], _ => exact ⟨w0, w1, w2, rfl⟩
    have e3 := e3 (by decide)
    have hw : w0 = callWordT.getD 2 [] := by
      rw [← hw0, e3]
      simp only [joinW, List.flatMap_cons, List.cons_append, List.append_assoc]
      rw [ct_app (e2 w0 (by simp)).2]
    have hd := num (x := w1) hb2 (by rw [hc] at d1; exact d1)
    have hp := hpb (x := w2) hb1
    rw [hc, e3, hw]
    simp [callText, rcK, rcN, callWordS, callWordT, joinW, pt, hasPath, hasName, hasConfig, hasText, within, gd, partN, hd, hp]
  · obtain ⟨w0, w1, w2, w3, rfl⟩ : ∃ w0 w1 w2 w3, w = [w0, w1, w2, w3] := by
      have e1 : w.length = 4 := e1
      match w, e1 with
      | [w0, w1, w2, w3], _ => exact ⟨w0, w1, w2, w3, rfl⟩
    have e3 := e3 (by decide)
    have hw : w0 = callWordT.getD 3 [] := by
      rw [← hw0, e3]
      simp only [joinW, List.flatMap_cons, List.cons_append, List.append_assoc]
      rw [ct_app (e2 w0 (by simp)).2]
    have hd := num (x := w1) hb2 (by rw [hc] at d1; exact d1)
    have hp := hpb (x := w2) hb1
    rw [hc, e3, hw]
    simp [callText, rcK, rcN, callWordS, callWordT, joinW, pt, hasPath, hasName, hasConfig, hasText, within, gd, partN, hd, hp]
  · obtain ⟨w0, w1, w2, rfl⟩ : ∃ w0 w1 w2, w = [w0, w1, w2] := by
      have e1 : w.length = 3 := e1
      match w, e1 with
      | [w0, w1, w2], _ => exact ⟨w0, w1, w2, rfl⟩
    have e3 := e3 (by decide)
    have hw : w0 = callWordT.getD 4 [] := by
      rw [← hw0, e3]
      simp only [joinW, List.flatMap_cons, List.cons_append, List.append_assoc]
      rw [ct_app (e2 w0 (by simp)).2]
    have hd := num (x := w1) hb2 (by rw [hc] at d1; exact d1)
    have hp := hpb (x := w2) hb1
    rw [hc, e3, hw]
    simp [callText, rcK, rcN, callWordS, callWordT, joinW, pt, hasPath, hasName, hasConfig, hasText, within, gd, partN, hd, hp]
  · obtain ⟨w0, w1, w2, rfl⟩ : ∃ w0 w1 w2, w = [w0, w1, w2] := by
      have e1 : w.length = 3 := e1
      match w, e1 with
      | [w0, w1, w2], _ => exact ⟨w0, w1, w2, rfl⟩
    have e3 := e3 (by decide)
    have hw : w0 = callWordT.getD 5 [] := by
      rw [← hw0, e3]
      simp only [joinW, List.flatMap_cons, List.cons_append, List.append_assoc]
      rw [ct_app (e2 w0 (by simp)).2]
    have hd := num (x := w1) hb2 (by rw [hc] at d1; exact d1)
    have hg := num (x := w2) hb1 (by rw [hc] at fg; exact (fg rfl).1)
    rw [hc, e3, hw]
    simp [callText, rcK, rcN, callWordS, callWordT, joinW, pt, hasPath, hasName, hasConfig, hasText, within, gd, partN, hd, hg]
  · obtain ⟨w0, w1, rfl⟩ : ∃ w0 w1, w = [w0, w1] := by
      have e1 : w.length = 2 := e1
      match w, e1 with
      | [w0, w1], _ => exact ⟨w0, w1, rfl⟩
    have e3 := e3 (by decide)
    have hw : w0 = callWordT.getD 6 [] := by
      rw [← hw0, e3]
      simp only [joinW, List.flatMap_cons, List.cons_append, List.append_assoc]
      rw [ct_app (e2 w0 (by simp)).2]
    have hd := num (x := w1) hb2 (by rw [hc] at d1; exact d1)
    rw [hc, e3, hw]
    simp [callText, rcK, rcN, callWordS, callWordT, joinW, pt, hasPath, hasName, hasConfig, hasText, within, gd, partN, hd]
  · obtain ⟨w0, w1, w2, rfl⟩ : ∃ w0 w1 w2, w = [w0, w1, w2] := by
      have e1 : w.length = 3 := e1
      match w, e1 with
      | [w0, w1, w2], _ => exact ⟨w0, w1, w2, rfl⟩
    have e3 := e3 (by decide)
    have hw : w0 = callWordT.getD 7 [] := by
      rw [← hw0, e3]
      simp only [joinW, List.flatMap_cons, List.cons_append, List.append_assoc]
      rw [ct_app (e2 w0 (by simp)).2]
    have hd := num (x := w1) hb2 (by rw [hc] at d1; exact d1)
    have hg := num (x := w2) hb1 (by rw [hc] at fg; exact (fg rfl).1)
    rw [hc, e3, hw]
    simp [callText, rcK, rcN, callWordS, callWordT, joinW, pt, hasPath, hasName, hasConfig, hasText, within, gd, partN, hd, hg]
  · obtain ⟨w0, w1, rfl⟩ : ∃ w0 w1, w = [w0, w1] := by
      have e1 : w.length = 2 := e1
      match w, e1 with
      | [w0, w1], _ => exact ⟨w0, w1, rfl⟩
    have e3 := e3 (by decide)
    have hw : w0 = callWordT.getD 8 [] := by
      rw [← hw0, e3]
      simp only [joinW, List.flatMap_cons, List.cons_append, List.append_assoc]
      rw [ct_app (e2 w0 (by simp)).2]
    have hd := num (x := w1) hb2 (by rw [hc] at d1; exact d1)
    rw [hc, e3, hw]
    simp [callText, rcK, rcN, callWordS, callWordT, joinW, pt, hasPath, hasName, hasConfig, hasText, within, gd, partN, hd]
/-- Both ways to read a call's text are one. -/
theorem rc_eq (t : Str) : (rcI t).2 = (rcS t).2 ∧ ((rcI t).2 = true → (rcI t).1 = (rcS t).1) := by
  have hI : (rcI t).2 = true → callOK (rcI t).1 = true ∧ callText (rcI t).1 = t := fun h => by
    unfold rcI at h ⊢
    split at h
    · cases h
    rename_i h0
    rw [if_neg h0]
    split at h
    · rename_i h1; rw [if_pos h1]; exact h1
    · cases h
  have hS : (rcS t).2 = true → callOK (rcS t).1 = true ∧ callText (rcS t).1 = t := fun h => rcS_ok (by rw [← h])
  cases h : (rcI t).2 with
  | true =>
    obtain ⟨h1, h2⟩ := hI h
    have h3 := rcS_back h1
    rw [h2] at h3
    rw [h3]
    exact ⟨rfl, fun _ => rfl⟩
  | false =>
    refine ⟨?_, fun h => by cases h⟩
    cases h' : (rcS t).2 with
    | false => rfl
    | true =>
      obtain ⟨h1, h2⟩ := hS h'
      have h3 := rcI_back h1
      rw [h2] at h3
      rw [h3] at h; cases h
end Go.Ab
