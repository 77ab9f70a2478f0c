/- Configurations as texts. -/
import Derived.Test.YtmofbeofijlofaaFnE
import Derived.Test.YtmofbeofijlofaaLibJoin
set_option linter.all false
set_option linter.unusedSimpArgs false
set_option linter.unusedVariables false
set_option linter.unusedSectionVars false
set_option maxRecDepth 20000
set_option maxHeartbeats 1000000
namespace Go.Ab
open Go Go.Proofs.Try
theorem joinS_snoc (l : List Str) (x sep : Str) : joinS (l ++ [x]) sep = (if 0 < l.length then joinS l sep ++ sep else []) ++ x := by
  have h := joinS_take (l := l ++ [x]) (sep := sep) (k := l.length) (by simp)
  rw [show (l ++ [x]).take (l.length + 1) = l ++ [x] from List.take_of_length_le (by simp)] at h
  rw [h]
  simp [List.getD]
theorem joinS_take_le (l : List Str) (sep : Str) (k : Nat) : (joinS (l.take k) sep).length ≤ (joinS l sep).length := by
  have key : ∀ n, ∀ k ≤ n, n ≤ l.length → (joinS (l.take k) sep).length ≤ (joinS (l.take n) sep).length := by
    intro n
    induction n with
    | zero => intro k hk _; rw [Nat.le_zero.1 hk]; exact Nat.le_refl _
    | succ n ih =>
      intro k hk hn
      rcases Nat.lt_or_eq_of_le hk with h | rfl
      · have := ih k (by omega) (by omega)
        rw [joinS_take (by omega)]
        split
        · simp only [List.length_append]; omega
        · have h0 : n = 0 := by omega
          subst h0
          simp [joinS_nil] at this
          rw [this]; exact Nat.zero_le _
      · exact Nat.le_refl _
  by_cases h : k ≤ l.length
  · have := key l.length k h (Nat.le_refl _)
    rwa [List.take_length] at this
  · rw [List.take_of_length_le (by omega)]; exact Nat.le_refl _
def spaceS : List Str := [[], [115, 118, 103, 47], [109, 97, 116, 104, 47]]
def placed (s : Int) (m : Str) : Str := gd spaceS [] s ++ m
theorem placed_le (s : Int) (m : Str) : (placed s m).length ≤ 5 + m.length := by
  unfold placed gd spaceS
  have h : ∀ k : Nat, (([[], [115, 118, 103, 47], [109, 97, 116, 104, 47]] : List Str).getD k []).length ≤ 5 := fun k => by
    match k with
    | 0 => simp
    | 1 => simp
    | 2 => simp
    | k + 3 => simp
  have := h s.toNat
  rw [List.length_append]; omega
noncomputable def sp_placed : Spec := ⟨[.sc, .sc], [.rd, .rd], true, fun
  | [.int .i64 s, .str m] => some (some (0 ≤ s ∧ s ≤ 2 ∧ m.length ≤ 1073741824), .str (placed s m), [])
  | _ => none⟩
@[push_cast] theorem sp_placed_ps : sp_placed.ps = [.sc, .sc] := rfl
@[push_cast] theorem sp_placed_md : sp_placed.modes = [.rd, .rd] := rfl
@[push_cast] theorem sp_placed_pure : sp_placed.pure = true := rfl
@[push_cast] theorem sp_placed_run (s : Int) (m : Str) : sp_placed.run [.int .i64 s, .str m] = some (some (0 ≤ s ∧ s ≤ 2 ∧ m.length ≤ 1073741824), .str (placed s m), []) := rfl
noncomputable def e_placed : Env := mk [] []
@[push_cast] theorem e_placed_dr : e_placed.dr = drOf [] := rfl
@[push_cast] theorem e_placed_td : e_placed.td = td := rfl
@[push_cast] theorem e_placed_cal : e_placed.cal = calOf [] := rfl
theorem c_placed : CRow P0 ety0 111 sp_placed := CRow.of (E := e_placed) (mkOk (.nil)) func111 rfl rfl rfl (by
  intro args p r outs h hq
  simp only [sp_placed] at h; split at h <;> cases h
  rename_i s m
  obtain ⟨h0, h2, hm⟩ := hq _ rfl
  have hp := placed_le s m
  refine Body.intro (rs := [.tmp 4]) rfl rfl rfl ?_
  apply vc_run 1000 (stop := false) rfl; simp only [push_cast, reduceIte, Nat.reduceEqDiff, Nat.reduceAdd, Nat.reduceSub, Nat.reduceLT, Int.reduceNeg, Int.reduceLE, Int.reduceLT, Int.reduceToNat, Nat.reduceLeDiff, UInt8.reduceOfNat, UInt8.reduceOfNatLT, and_self, Nat.reduceMul, decide_true, decide_false, Bool.not_true, Bool.not_false, implies_true]
  have e : (gd spaceS [] s).length + m.length = (placed s m).length := by simp [placed]
  exact ⟨⟨h0, by omega⟩, (show (gd spaceS [] s).length + m.length ≤ 9223372036854775807 by omega), rfl⟩)
def ruleText (r : Rule) : Str := joinS (placed r.space r.name :: r.attrs) [43]
def rulesText (l : List Rule) : Str := joinS (l.map ruleText) [44]
def inSpace (r : Rule) : Prop := 0 ≤ r.space ∧ r.space ≤ 2
theorem joinS_le (l : List Str) (sep : Str) : (joinS l sep).length ≤ sumL List.length l + l.length * sep.length := by
  induction l with
  | nil => simp [joinS_nil]
  | cons x l ih =>
    cases l with
    | nil =>
      have : joinS [x] sep = x := by simp [joinS, Lib.join, List.intercalate, List.intersperse]
      rw [this]; simp [sumL]
    | cons y l =>
      have e1 : joinS (x :: y :: l) sep = x ++ sep ++ joinS (y :: l) sep := by simp [joinS, Lib.join, List.intercalate, List.intersperse]
      have e2 : sumL List.length (x :: y :: l) = x.length + sumL List.length (y :: l) := by simp [sumL]
      rw [e1, e2]
      simp only [List.length_append, List.length_cons, Nat.succ_mul] at *
      omega
theorem ruleText_le (r : Rule) : (ruleText r).length ≤ 6 + szRule r := by
  have h1 := joinS_le (placed r.space r.name :: r.attrs) [43]
  have h2 := placed_le r.space r.name
  have e : sumL List.length (placed r.space r.name :: r.attrs) = (placed r.space r.name).length + sumL List.length r.attrs := by simp [sumL]
  unfold ruleText
  simp only [szRule, szL]
  simp only [List.length_cons, List.length_nil, Nat.zero_add, Nat.mul_one] at h1
  omega
theorem rulesText_le (l : List Rule) : (rulesText l).length ≤ 8 * szL szRule l := by
  have h1 := joinS_le (l.map ruleText) [44]
  have h2 : sumL List.length (l.map ruleText) ≤ 6 * l.length + sumL szRule l := by
    clear h1
    induction l with
    | nil => simp [sumL]
    | cons x l ih =>
      have e1 : sumL List.length ((x :: l).map ruleText) = (ruleText x).length + sumL List.length (l.map ruleText) := by simp [sumL]
      have e2 : sumL szRule (x :: l) = szRule x + sumL szRule l := by simp [sumL]
      have := ruleText_le x
      rw [e1, e2, List.length_cons]; omega
  unfold rulesText
  simp only [szL]
  simp only [List.length_map, List.length_cons, List.length_nil, Nat.zero_add, Nat.mul_one] at h1
  omega
noncomputable def sp_rulesText : Spec := ⟨[.sl .rule], [.rd], true, fun
  | [.dat ⟨.rule, l⟩] => some (some (szL szRule l ≤ 1048576 ∧ ∀ r ∈ l, inSpace r), .str (rulesText l), [])
  | _ => none⟩
@[push_cast] theorem sp_rulesText_ps : sp_rulesText.ps = [.sl .rule] := rfl
@[push_cast] theorem sp_rulesText_md : sp_rulesText.modes = [.rd] := rfl
@[push_cast] theorem sp_rulesText_pure : sp_rulesText.pure = true := rfl
@[push_cast] theorem sp_rulesText_run (l : List Rule) : sp_rulesText.run [.dat ⟨.rule, l⟩] = some (some (szL szRule l ≤ 1048576 ∧ ∀ r ∈ l, inSpace r), .str (rulesText l), []) := rfl
noncomputable def e_rulesText : Env := mk [(111, sp_placed), (83, sp_join)] [(5, [6, 9, 11, 12], [[1, 2, 3], [], [], [], [], [], [], [0], [0]])]
@[push_cast] theorem e_rulesText_dr : e_rulesText.dr = drOf [(5, [6, 9, 11, 12], [[1, 2, 3], [], [], [], [], [], [], [0], [0]])] := rfl
@[push_cast] theorem e_rulesText_td : e_rulesText.td = td := rfl
@[push_cast] theorem e_rulesText_cal : e_rulesText.cal = calOf [(111, sp_placed), (83, sp_join)] := rfl
theorem c_rulesText : CRow P0 ety0 82 sp_rulesText := CRow.of (E := e_rulesText) (mkOk (.cons c_placed (.cons c_join (.nil)))) func82 rfl rfl rfl (by
  intro args p r outs h hq
  simp only [sp_rulesText] at h; split at h <;> cases h
  rename_i l
  obtain ⟨hz, hsp⟩ := hq _ rfl
  have hl : l.length ≤ 1048576 := Nat.le_trans (szL_len _ _) hz
  have hrt := rulesText_le l
  refine Body.intro (rs := [.tmp 2]) rfl rfl rfl ?_
  apply vc_run 1000 (stop := false) rfl; simp only [push_cast, reduceIte, Nat.reduceEqDiff, Nat.reduceAdd, Nat.reduceSub, Nat.reduceLT, Int.reduceNeg, Int.reduceLE, Int.reduceLT, Int.reduceToNat, Nat.reduceLeDiff, UInt8.reduceOfNat, UInt8.reduceOfNatLT, and_self, Nat.reduceMul, decide_true, decide_false, Bool.not_true, Bool.not_false, implies_true]
  refine Run.loop [3, 9] [0, 7, 8] [] rfl (fun n vs bs => ∃ k : Nat, vs = [.own true ⟨.str, (l.take k).map ruleText⟩, .int .i64 k] ∧ bs = [] ∧ k ≤ l.length ∧ n = l.length - k) l.length ?_ ?_
  · simp only [push_cast, reduceIte, Nat.reduceEqDiff, Nat.reduceAdd, Nat.reduceSub, Nat.reduceLT, Int.reduceNeg, Int.reduceLE, Int.reduceLT, Int.reduceToNat, Nat.reduceLeDiff, UInt8.reduceOfNat, UInt8.reduceOfNatLT, and_self, Nat.reduceMul, decide_true, decide_false, Bool.not_true, Bool.not_false, implies_true]
    exact ⟨0, rfl, by omega, by omega⟩
  rintro n vs bs ⟨k, rfl, rfl, hk, rfl⟩
  simp only [push_cast, reduceIte, Nat.reduceEqDiff, Nat.reduceAdd, Nat.reduceSub, Nat.reduceLT, Int.reduceNeg, Int.reduceLE, Int.reduceLT, Int.reduceToNat, Nat.reduceLeDiff, UInt8.reduceOfNat, UInt8.reduceOfNatLT, and_self, Nat.reduceMul, decide_true, decide_false, Bool.not_true, Bool.not_false, implies_true]
  apply vc_run 1000 (stop := false) rfl; simp only [push_cast, reduceIte, Nat.reduceEqDiff, Nat.reduceAdd, Nat.reduceSub, Nat.reduceLT, Int.reduceNeg, Int.reduceLE, Int.reduceLT, Int.reduceToNat, Nat.reduceLeDiff, UInt8.reduceOfNat, UInt8.reduceOfNatLT, and_self, Nat.reduceMul, decide_true, decide_false, Bool.not_true, Bool.not_false, implies_true]
  rw [List.length_map, List.length_take]
  refine ⟨fun hlt => ?_, fun hge => ?_⟩
  · have hlt : k < l.length := Int.ofNat_lt.1 (of_decide_eq_true hlt)
    have hel := szL_at szRule ruleD hlt
    have hsp := fit_at (d := ruleD) hsp hlt
    have hrk := ruleText_le (l.getD k ruleD)
    simp only [gd_nat]
    generalize hr : l.getD k ruleD = r at *
    have hra := szL_len List.length r.attrs
    simp only [szRule] at hel hrk
    refine ⟨by omega, ⟨hsp.1, hsp.2, by omega⟩, by omega, ⟨by omega, (show (ruleText r).length ≤ 140737488355328 by omega)⟩, by omega, by constructor <;> omega, _, by omega, k + 1, ?_, by omega, rfl⟩
    rw [List.take_succ_eq_append_getElem hlt, List.map_append]
    have e : l[k] = r := by rw [← hr]; simp [List.getD, hlt]
    rw [e]; rfl
  · have hge : k = l.length := by have := of_decide_eq_false hge; omega
    subst hge
    rw [List.take_length]
    exact ⟨⟨by omega, (show (rulesText l).length ≤ 140737488355328 by omega)⟩, rfl⟩)
noncomputable def sp_ruleText : Spec := ⟨[.st .rule], [.rd], true, fun
  | [.agg [.int .i64 s, .str m, .dat ⟨.str, a⟩]] => some (some (szRule ⟨s, m, a⟩ ≤ 1048576 ∧ inSpace ⟨s, m, a⟩), .str (ruleText ⟨s, m, a⟩), [])
  | _ => none⟩
@[push_cast] theorem sp_ruleText_ps : sp_ruleText.ps = [.st .rule] := rfl
@[push_cast] theorem sp_ruleText_md : sp_ruleText.modes = [.rd] := rfl
@[push_cast] theorem sp_ruleText_pure : sp_ruleText.pure = true := rfl
@[push_cast] theorem sp_ruleText_run (s : Int) (m : Str) (a : List Str) : sp_ruleText.run [.agg [.int .i64 s, .str m, .dat ⟨.str, a⟩]] = some (some (szRule ⟨s, m, a⟩ ≤ 1048576 ∧ inSpace ⟨s, m, a⟩), .str (ruleText ⟨s, m, a⟩), []) := rfl
noncomputable def sp_l12Rules : Spec := ⟨[.sc, .sl .rule], [.rd, .rd], true, fun
  | [.str w, .dat ⟨.rule, l⟩] => some (some (w.length ≤ 1048576 ∧ szL szRule l ≤ 1048576 ∧ ∀ r ∈ l, inSpace r), .str (32 :: w ++ [58] ++ rulesText l), [])
  | _ => none⟩
@[push_cast] theorem sp_l12Rules_ps : sp_l12Rules.ps = [.sc, .sl .rule] := rfl
@[push_cast] theorem sp_l12Rules_md : sp_l12Rules.modes = [.rd, .rd] := rfl
@[push_cast] theorem sp_l12Rules_pure : sp_l12Rules.pure = true := rfl
@[push_cast] theorem sp_l12Rules_run (w : Str) (l : List Rule) : sp_l12Rules.run [.str w, .dat ⟨.rule, l⟩] = some (some (w.length ≤ 1048576 ∧ szL szRule l ≤ 1048576 ∧ ∀ r ∈ l, inSpace r), .str (32 :: w ++ [58] ++ rulesText l), []) := rfl
noncomputable def e_l12Rule : Env := mk [] [(1, [0], [[], [0], [0], [], [], [0], [0]])]
@[push_cast] theorem e_l12Rule_dr : e_l12Rule.dr = drOf [(1, [0], [[], [0], [0], [], [], [0], [0]])] := rfl
@[push_cast] theorem e_l12Rule_td : e_l12Rule.td = td := rfl
@[push_cast] theorem e_l12Rule_cal : e_l12Rule.cal = calOf [] := rfl
theorem c_l12Rule : CRow P0 ety0 101 sp_ruleText := CRow.of (E := e_l12Rule) (mkOk (.nil)) func101 rfl rfl rfl (by
  intro args p r outs h hq
  simp only [sp_ruleText] at h; split at h <;> cases h
  rename_i s m a
  obtain ⟨hz, hsp⟩ := hq _ rfl
  have hz2 := hz
  simp only [szRule] at hz
  have hp := placed_le s m
  have hrt := ruleText_le ⟨s, m, a⟩
  have ha := szL_len List.length a
  refine Body.intro (rs := [.tmp 2]) rfl rfl rfl ?_
  apply vc_run 1000 (stop := false) rfl; simp only [push_cast, reduceIte, Nat.reduceEqDiff, Nat.reduceAdd, Nat.reduceSub, Nat.reduceLT, Int.reduceNeg, Int.reduceLE, Int.reduceLT, Int.reduceToNat, Nat.reduceLeDiff, UInt8.reduceOfNat, UInt8.reduceOfNatLT, and_self, Nat.reduceMul, decide_true, decide_false, Bool.not_true, Bool.not_false, implies_true]
  refine ⟨⟨hsp.1, (show s < 3 by have := hsp.2; simp at this; omega)⟩, ?_, ?_⟩
  · have e : (gd spaceS [] s).length + m.length = (placed s m).length := by simp [placed]
    exact (show (gd spaceS [] s).length + m.length ≤ 9223372036854775807 by omega)
  refine Run.loop [3, 4] [1] [0] rfl (fun n vs bs => ∃ k : Nat, vs = [.str (joinS ((placed s m :: a).take (k + 1)) [43]), .int .i64 k] ∧ bs = [[.int .i64 s, .str m, .dat ⟨.str, a⟩]] ∧ k ≤ a.length ∧ n = a.length - k) a.length ?_ ?_
  · simp only [push_cast, reduceIte, Nat.reduceEqDiff, Nat.reduceAdd, Nat.reduceSub, Nat.reduceLT, Int.reduceNeg, Int.reduceLE, Int.reduceLT, Int.reduceToNat, Nat.reduceLeDiff, UInt8.reduceOfNat, UInt8.reduceOfNatLT, and_self, Nat.reduceMul, decide_true, decide_false, Bool.not_true, Bool.not_false, implies_true]
    exact ⟨0, by simp [joinS, Lib.join, List.intercalate, List.intersperse]; rfl, by omega, by omega⟩
  rintro n vs bs ⟨k, rfl, rfl, hk, rfl⟩
  simp only [push_cast, reduceIte, Nat.reduceEqDiff, Nat.reduceAdd, Nat.reduceSub, Nat.reduceLT, Int.reduceNeg, Int.reduceLE, Int.reduceLT, Int.reduceToNat, Nat.reduceLeDiff, UInt8.reduceOfNat, UInt8.reduceOfNatLT, and_self, Nat.reduceMul, decide_true, decide_false, Bool.not_true, Bool.not_false, implies_true]
  apply vc_run 1000 (stop := false) rfl; simp only [push_cast, reduceIte, Nat.reduceEqDiff, Nat.reduceAdd, Nat.reduceSub, Nat.reduceLT, Int.reduceNeg, Int.reduceLE, Int.reduceLT, Int.reduceToNat, Nat.reduceLeDiff, UInt8.reduceOfNat, UInt8.reduceOfNatLT, and_self, Nat.reduceMul, decide_true, decide_false, Bool.not_true, Bool.not_false, implies_true]
  have hs1 := joinS_le (placed s m :: a.take k) [43]
  have hs2 := sumL_take_le List.length a k
  have hs3 : sumL List.length (placed s m :: a.take k) = (placed s m).length + sumL List.length (a.take k) := by simp [sumL]
  simp only [szL] at hz
  simp only [List.length_cons, List.length_nil, Nat.zero_add, Nat.mul_one, List.length_take] at hs1
  refine ⟨fun hlt => ?_, fun hge => ?_⟩
  · have hlt : k < a.length := Int.ofNat_lt.1 (of_decide_eq_true hlt)
    have hel : (a.getD k []).length ≤ sumL List.length a := sumL_mem List.length (by
      have e : a.getD k [] = a[k] := by simp [List.getD, hlt]
      rw [e]; exact List.getElem_mem hlt)
    simp only [gd_nat]
    refine ⟨by omega, by omega, by omega, by constructor <;> omega, _, by omega, k + 1, ?_, by omega, rfl⟩
    rw [List.take_succ_eq_append_getElem hlt, ← List.cons_append, joinS_snoc]
    have e : a.getD k [] = a[k] := by simp [List.getD, hlt]
    rw [e]
    simp
  · have hge : k = a.length := by have := of_decide_eq_false hge; omega
    subst hge
    rw [List.take_length]; rfl)
noncomputable def e_l12Rules : Env := mk [(101, sp_ruleText)] []
@[push_cast] theorem e_l12Rules_dr : e_l12Rules.dr = drOf [] := rfl
@[push_cast] theorem e_l12Rules_td : e_l12Rules.td = td := rfl
@[push_cast] theorem e_l12Rules_cal : e_l12Rules.cal = calOf [(101, sp_ruleText)] := rfl
theorem c_l12Rules : CRow P0 ety0 74 sp_l12Rules := CRow.of (E := e_l12Rules) (mkOk (.cons c_l12Rule (.nil))) func74 rfl rfl rfl (by
  intro args p r outs h hq
  simp only [sp_l12Rules] at h; split at h <;> cases h
  rename_i w l
  obtain ⟨hw, hz, hsp⟩ := hq _ rfl
  have hl : l.length ≤ 1048576 := Nat.le_trans (szL_len _ _) hz
  have hrt := rulesText_le l
  refine Body.intro (rs := [.tmp 4]) rfl rfl rfl ?_
  apply vc_run 1000 (stop := false) rfl; simp only [push_cast, reduceIte, Nat.reduceEqDiff, Nat.reduceAdd, Nat.reduceSub, Nat.reduceLT, Int.reduceNeg, Int.reduceLE, Int.reduceLT, Int.reduceToNat, Nat.reduceLeDiff, UInt8.reduceOfNat, UInt8.reduceOfNatLT, and_self, Nat.reduceMul, decide_true, decide_false, Bool.not_true, Bool.not_false, implies_true]
  refine ⟨by omega, by omega, ?_⟩
  refine Run.loop [5, 6] [1] [] rfl (fun n vs bs => ∃ k : Nat, vs = [.str (32 :: w ++ [58] ++ joinS ((l.take k).map ruleText) [44]), .int .i64 k] ∧ bs = [] ∧ k ≤ l.length ∧ n = l.length - k) l.length ?_ ?_
  · simp only [push_cast, reduceIte, Nat.reduceEqDiff, Nat.reduceAdd, Nat.reduceSub, Nat.reduceLT, Int.reduceNeg, Int.reduceLE, Int.reduceLT, Int.reduceToNat, Nat.reduceLeDiff, UInt8.reduceOfNat, UInt8.reduceOfNatLT, and_self, Nat.reduceMul, decide_true, decide_false, Bool.not_true, Bool.not_false, implies_true]
    exact ⟨0, by simp [joinS_nil], by omega, by omega⟩
  rintro n vs bs ⟨k, rfl, rfl, hk, rfl⟩
  simp only [push_cast, reduceIte, Nat.reduceEqDiff, Nat.reduceAdd, Nat.reduceSub, Nat.reduceLT, Int.reduceNeg, Int.reduceLE, Int.reduceLT, Int.reduceToNat, Nat.reduceLeDiff, UInt8.reduceOfNat, UInt8.reduceOfNatLT, and_self, Nat.reduceMul, decide_true, decide_false, Bool.not_true, Bool.not_false, implies_true]
  apply vc_run 1000 (stop := false) rfl; simp only [push_cast, reduceIte, Nat.reduceEqDiff, Nat.reduceAdd, Nat.reduceSub, Nat.reduceLT, Int.reduceNeg, Int.reduceLE, Int.reduceLT, Int.reduceToNat, Nat.reduceLeDiff, UInt8.reduceOfNat, UInt8.reduceOfNatLT, and_self, Nat.reduceMul, decide_true, decide_false, Bool.not_true, Bool.not_false, implies_true]
  have hs1 := joinS_take_le (l.map ruleText) [44] k
  rw [← List.map_take] at hs1
  have hs1 : (joinS ((l.take k).map ruleText) [44]).length ≤ (rulesText l).length := hs1
  refine ⟨fun hlt => ?_, fun hge => ?_⟩
  · have hlt : k < l.length := Int.ofNat_lt.1 (of_decide_eq_true hlt)
    have hel := szL_at szRule ruleD hlt
    have hsp := fit_at (d := ruleD) hsp hlt
    have hrk := ruleText_le (l.getD k ruleD)
    have hstep : joinS ((l.take (k + 1)).map ruleText) [44] = (if 0 < k then joinS ((l.take k).map ruleText) [44] ++ [44] else []) ++ ruleText (l.getD k ruleD) := by
      rw [List.take_succ_eq_append_getElem hlt, List.map_append, List.map_singleton, joinS_snoc, List.length_map, List.length_take]
      have e : l.getD k ruleD = l[k] := by simp [List.getD, hlt]
      rw [e, Nat.min_eq_left (by omega)]
    simp only [gd_nat]
    refine ⟨fun h0 => ?_, fun h0 => ?_⟩
    · have h0 : 0 < k := by have := of_decide_eq_true h0; omega
      rw [if_pos h0] at hstep
      refine ⟨by omega, by omega, ⟨by omega, hsp⟩, by omega, by constructor <;> omega, _, by omega, k + 1, ?_, by omega, rfl⟩
      rw [hstep]; simp
    · have h0 : k = 0 := by have := of_decide_eq_false h0; omega
      subst h0
      refine ⟨by omega, ⟨by omega, hsp⟩, by omega, by constructor <;> omega, _, by omega, 0 + 1, ?_, by omega, rfl⟩
      rw [hstep]; simp [joinS_nil]
  · have hge : k = l.length := by have := of_decide_eq_false hge; omega
    subst hge
    rw [List.take_length]; rfl)
noncomputable def e_l00Join : Env := mk [] []
@[push_cast] theorem e_l00Join_dr : e_l00Join.dr = drOf [] := rfl
@[push_cast] theorem e_l00Join_td : e_l00Join.td = td := rfl
@[push_cast] theorem e_l00Join_cal : e_l00Join.cal = calOf [] := rfl
theorem c_l00Join : CRow P0 ety0 75 sp_join := CRow.of (E := e_l00Join) (mkOk (.nil)) func75 rfl rfl rfl (by
  intro args p r outs h hq
  simp only [sp_join] at h; split at h <;> cases h
  rename_i l sep
  obtain ⟨hl, hj⟩ := hq _ rfl
  refine Body.intro (rs := [.tmp 4]) rfl rfl rfl ?_
  apply vc_run 1000 (stop := false) rfl; simp only [push_cast, reduceIte, Nat.reduceEqDiff, Nat.reduceAdd, Nat.reduceSub, Nat.reduceLT, Int.reduceNeg, Int.reduceLE, Int.reduceLT, Int.reduceToNat, Nat.reduceLeDiff, UInt8.reduceOfNat, UInt8.reduceOfNatLT, and_self, Nat.reduceMul, decide_true, decide_false, Bool.not_true, Bool.not_false, implies_true]
  refine Run.loop [5, 6] [0, 1] [] rfl (fun n vs bs => ∃ k : Nat, vs = [.str (joinS (l.take k) sep), .int .i64 k] ∧ bs = [] ∧ k ≤ l.length ∧ n = l.length - k) l.length ?_ ?_
  · simp only [push_cast, reduceIte, Nat.reduceEqDiff, Nat.reduceAdd, Nat.reduceSub, Nat.reduceLT, Int.reduceNeg, Int.reduceLE, Int.reduceLT, Int.reduceToNat, Nat.reduceLeDiff, UInt8.reduceOfNat, UInt8.reduceOfNatLT, and_self, Nat.reduceMul, decide_true, decide_false, Bool.not_true, Bool.not_false, implies_true]
    exact ⟨0, by simp [joinS_nil], by omega, by omega⟩
  rintro n vs bs ⟨k, rfl, rfl, hk, rfl⟩
  simp only [push_cast, reduceIte, Nat.reduceEqDiff, Nat.reduceAdd, Nat.reduceSub, Nat.reduceLT, Int.reduceNeg, Int.reduceLE, Int.reduceLT, Int.reduceToNat, Nat.reduceLeDiff, UInt8.reduceOfNat, UInt8.reduceOfNatLT, and_self, Nat.reduceMul, decide_true, decide_false, Bool.not_true, Bool.not_false, implies_true]
  apply vc_run 1000 (stop := false) rfl; simp only [push_cast, reduceIte, Nat.reduceEqDiff, Nat.reduceAdd, Nat.reduceSub, Nat.reduceLT, Int.reduceNeg, Int.reduceLE, Int.reduceLT, Int.reduceToNat, Nat.reduceLeDiff, UInt8.reduceOfNat, UInt8.reduceOfNatLT, and_self, Nat.reduceMul, decide_true, decide_false, Bool.not_true, Bool.not_false, implies_true]
  refine ⟨fun hlt => ?_, fun hge => ?_⟩
  · have hlt : k < l.length := Int.ofNat_lt.1 (of_decide_eq_true hlt)
    have hstep := joinS_take (sep := sep) hlt
    have hs1 := joinS_take_le l sep (k + 1)
    rw [hstep, List.length_append] at hs1
    simp only [gd_nat]
    refine ⟨fun h0 => ?_, fun h0 => ?_⟩
    · have h0 : 0 < k := by have := of_decide_eq_true h0; omega
      rw [if_pos h0] at hstep hs1
      rw [List.length_append] at hs1
      refine ⟨by omega, by omega, by omega, by constructor <;> omega, _, by omega, k + 1, ?_, by omega, rfl⟩
      rw [hstep]; simp
    · have h0 : k = 0 := by have := of_decide_eq_false h0; omega
      subst h0
      rw [if_neg (by omega)] at hstep hs1
      simp only [List.take_zero, joinS_nil, List.length_nil] at hs1 ⊢
      refine ⟨by omega, by omega, by constructor <;> omega, _, by omega, 0 + 1, ?_, by omega, rfl⟩
      rw [hstep]; rfl
  · have hge : k = l.length := by have := of_decide_eq_false hge; omega
    subst hge
    rw [List.take_length])
/-- A part of a configuration's text. -/
def pt (b : Bool) (w : Str) : Str := bif b then 32 :: w else []
def T0 : Str := [99, 111, 110, 102, 105, 103]
def Pa (c : Cfg) : Str := pt c.hasAllow ([97, 108, 108, 111, 119, 58] ++ rulesText c.allow)
def Pb (c : Cfg) : Str := pt (lenP c.remove) ([114, 101, 109, 111, 118, 101, 58] ++ rulesText c.remove)
def Pc (c : Cfg) : Str := pt (lenP c.unwrap) ([117, 110, 119, 114, 97, 112, 58] ++ rulesText c.unwrap)
def Pd (c : Cfg) : Str := pt c.hasAttrs ([97, 116, 116, 114, 115, 58] ++ joinS c.attrs [44])
def Pe (c : Cfg) : Str := pt (lenP c.drop) ([100, 114, 111, 112, 58] ++ joinS c.drop [44])
def Pf (c : Cfg) : Str := pt c.comments [99, 111, 109, 109, 101, 110, 116, 115]
def Pg (c : Cfg) : Str := pt c.data [100, 97, 116, 97]
def configText (c : Cfg) : Str := T0 ++ Pa c ++ Pb c ++ Pc c ++ Pd c ++ Pe c ++ Pf c ++ Pg c
theorem pt_le (b : Bool) (w : Str) : (pt b w).length ≤ w.length + 1 := by unfold pt; cases b <;> simp
theorem pt_t {b : Bool} {w : Str} (h : b = true) : pt b w = 32 :: w := by subst h; rfl
theorem pt_f {b : Bool} {w : Str} (h : b = false) : pt b w = [] := by subst h; rfl
def spacesOK (c : Cfg) : Prop := (∀ r ∈ c.allow, inSpace r) ∧ (∀ r ∈ c.remove, inSpace r) ∧ ∀ r ∈ c.unwrap, inSpace r
noncomputable def sp_configText : Spec := ⟨[.st .cfg], [.rd], true, fun
  | [.agg [.bool ha, .bool ht, .dat ⟨.rule, al⟩, .dat ⟨.rule, re⟩, .dat ⟨.rule, un⟩, .dat ⟨.str, ns⟩, .dat ⟨.str, dr⟩, .bool co, .bool da]] => some (some (szCfg ⟨ha, ht, al, re, un, ns, dr, co, da⟩ ≤ 1048576 ∧ spacesOK ⟨ha, ht, al, re, un, ns, dr, co, da⟩), .str (configText ⟨ha, ht, al, re, un, ns, dr, co, da⟩), [])
  | _ => none⟩
@[push_cast] theorem sp_configText_ps : sp_configText.ps = [.st .cfg] := rfl
@[push_cast] theorem sp_configText_md : sp_configText.modes = [.rd] := rfl
@[push_cast] theorem sp_configText_pure : sp_configText.pure = true := rfl
@[push_cast] theorem sp_configText_run (ha ht : Bool) (al re un : List Rule) (ns dr : List Str) (co da : Bool) : sp_configText.run [.agg [.bool ha, .bool ht, .dat ⟨.rule, al⟩, .dat ⟨.rule, re⟩, .dat ⟨.rule, un⟩, .dat ⟨.str, ns⟩, .dat ⟨.str, dr⟩, .bool co, .bool da]] = some (some (szCfg ⟨ha, ht, al, re, un, ns, dr, co, da⟩ ≤ 1048576 ∧ spacesOK ⟨ha, ht, al, re, un, ns, dr, co, da⟩), .str (configText ⟨ha, ht, al, re, un, ns, dr, co, da⟩), []) := rfl
noncomputable def sp_put1 : Spec := ⟨[.sc, .sc, .sc], [.rd, .rd, .io], false, fun
  | [.bool b, .str w, .pb [.str s]] => some (some (w.length ≤ 1073741824 ∧ s.length ≤ 1073741824), .tup [], [.pb [.str (s ++ pt b w)]])
  | _ => none⟩
@[push_cast] theorem sp_put1_ps : sp_put1.ps = [.sc, .sc, .sc] := rfl
@[push_cast] theorem sp_put1_md : sp_put1.modes = [.rd, .rd, .io] := rfl
@[push_cast] theorem sp_put1_pure : sp_put1.pure = false := rfl
@[push_cast] theorem sp_put1_run (b : Bool) (w s : Str) : sp_put1.run [.bool b, .str w, .pb [.str s]] = some (some (w.length ≤ 1073741824 ∧ s.length ≤ 1073741824), .tup [], [.pb [.str (s ++ pt b w)]]) := rfl
noncomputable def e_put1 : Env := mk [] []
@[push_cast] theorem e_put1_dr : e_put1.dr = drOf [] := rfl
@[push_cast] theorem e_put1_td : e_put1.td = td := rfl
@[push_cast] theorem e_put1_cal : e_put1.cal = calOf [] := rfl
theorem c_put1 : CRow P0 ety0 81 sp_put1 := CRow.of (E := e_put1) (mkOk (.nil)) func81 rfl rfl rfl (by
  intro args p r outs h hq
  simp only [sp_put1] at h; split at h <;> cases h
  rename_i b w s
  have hl := hq _ rfl
  refine Body.intro (rs := []) rfl rfl rfl ?_
  apply vc_run 1000 (stop := false) rfl; simp only [push_cast, reduceIte, Nat.reduceEqDiff, Nat.reduceAdd, Nat.reduceSub, Nat.reduceLT, Int.reduceNeg, Int.reduceLE, Int.reduceLT, Int.reduceToNat, Nat.reduceLeDiff, UInt8.reduceOfNat, UInt8.reduceOfNatLT, and_self, Nat.reduceMul, decide_true, decide_false, Bool.not_true, Bool.not_false, implies_true]
  refine ⟨fun h => ⟨by omega, by omega, ?_⟩, fun h => ?_⟩
  · subst h; rfl
  · subst h; simp [pt])
noncomputable def e_configText : Env := mk [(82, sp_rulesText), (83, sp_join), (81, sp_put1)] [(3, [7], []), (4, [9], []), (5, [9], []), (6, [7], []), (7, [9], [])]
@[push_cast] theorem e_configText_dr : e_configText.dr = drOf [(3, [7], []), (4, [9], []), (5, [9], []), (6, [7], []), (7, [9], [])] := rfl
@[push_cast] theorem e_configText_td : e_configText.td = td := rfl
@[push_cast] theorem e_configText_cal : e_configText.cal = calOf [(82, sp_rulesText), (83, sp_join), (81, sp_put1)] := rfl
theorem c_configText : CRow P0 ety0 42 sp_configText := CRow.of (E := e_configText) (mkOk (.cons c_rulesText (.cons c_join (.cons c_put1 (.nil))))) func42 rfl rfl rfl (by
  intro args p r outs h hq
  simp only [sp_configText] at h; split at h <;> cases h
  rename_i ha ht al re un ns dr co da
  obtain ⟨hz, hs1, hs2, hs3⟩ := hq _ rfl
  refine Body.intro (rs := [.tmp 2]) rfl rfl rfl ?_
  apply vc_run 1000 (stop := false) rfl; simp only [push_cast, reduceIte, Nat.reduceEqDiff, Nat.reduceAdd, Nat.reduceSub, Nat.reduceLT, Int.reduceNeg, Int.reduceLE, Int.reduceLT, Int.reduceToNat, Nat.reduceLeDiff, UInt8.reduceOfNat, UInt8.reduceOfNatLT, and_self, Nat.reduceMul, decide_true, decide_false, Bool.not_true, Bool.not_false, implies_true]
  have hz2 := hz
  simp only [szCfg] at hz
  have r1 := rulesText_le al
  have r2 := rulesText_le re
  have r3 := rulesText_le un
  have r4 := joinS_le ns [44]
  have r5 := joinS_le dr [44]
  simp only [szL, List.length_cons, List.length_nil, Nat.zero_add, Nat.mul_one] at hz r1 r2 r3 r4 r5
  have q1 := pt_le ha (97 :: 108 :: 108 :: 111 :: 119 :: 58 :: rulesText al)
  have q2 := pt_le (decide ((0 : Int) < (re.length : Nat))) (114 :: 101 :: 109 :: 111 :: 118 :: 101 :: 58 :: rulesText re)
  have q3 := pt_le (decide ((0 : Int) < (un.length : Nat))) (117 :: 110 :: 119 :: 114 :: 97 :: 112 :: 58 :: rulesText un)
  have q4 := pt_le ht (97 :: 116 :: 116 :: 114 :: 115 :: 58 :: joinS ns [44])
  have q5 := pt_le (decide ((0 : Int) < (dr.length : Nat))) (100 :: 114 :: 111 :: 112 :: 58 :: joinS dr [44])
  have q6 := pt_le co [99, 111, 109, 109, 101, 110, 116, 115]
  simp only [List.length_cons, List.length_nil] at q1 q2 q3 q4 q5 q6
  simp only [szL]
  refine ⟨⟨by omega, hs1⟩, by omega, by omega, ⟨by omega, hs2⟩, by omega, ⟨by omega, by omega⟩, ⟨by omega, hs3⟩, by omega, ⟨by omega, by omega⟩, ⟨by omega, by omega⟩, by omega, ⟨by omega, by omega⟩, ⟨by omega, by omega⟩, by omega, ⟨by omega, by omega⟩, by omega, by omega, ?_⟩
  simp [configText, Pa, Pb, Pc, Pd, Pe, Pf, Pg, T0, lenP])
noncomputable def e_l12Config : Env := mk [(74, sp_l12Rules), (75, sp_join)] []
@[push_cast] theorem e_l12Config_dr : e_l12Config.dr = drOf [] := rfl
@[push_cast] theorem e_l12Config_td : e_l12Config.td = td := rfl
@[push_cast] theorem e_l12Config_cal : e_l12Config.cal = calOf [(74, sp_l12Rules), (75, sp_join)] := rfl
theorem c_l12Config : CRow P0 ety0 38 sp_configText := CRow.of (E := e_l12Config) (mkOk (.cons c_l12Rules (.cons c_l00Join (.nil)))) func38 rfl rfl rfl (by
  intro args p r outs h hq
  simp only [sp_configText] at h; split at h <;> cases h
  rename_i ha ht al re un ns dr co da
  obtain ⟨hz, hs1, hs2, hs3⟩ := hq _ rfl
  refine Body.intro (rs := [.tmp 2]) rfl rfl rfl ?_
  apply vc_run 1000 (stop := true) rfl; simp only [push_cast, reduceIte, Nat.reduceEqDiff, Nat.reduceAdd, Nat.reduceSub, Nat.reduceLT, Int.reduceNeg, Int.reduceLE, Int.reduceLT, Int.reduceToNat, Nat.reduceLeDiff, UInt8.reduceOfNat, UInt8.reduceOfNatLT, and_self, Nat.reduceMul, decide_true, decide_false, Bool.not_true, Bool.not_false, implies_true]
  have hz2 := hz
  simp only [szCfg] at hz
  have r1 := rulesText_le al
  have r2 := rulesText_le re
  have r3 := rulesText_le un
  have r4 := joinS_le ns [44]
  have r5 := joinS_le dr [44]
  simp only [szL, List.length_cons, List.length_nil, Nat.zero_add, Nat.mul_one] at hz r1 r2 r3 r4 r5
  have qT : T0.length = 6 := rfl
  obtain ⟨c, hc⟩ : ∃ c, c = (⟨ha, ht, al, re, un, ns, dr, co, da⟩ : Cfg) := ⟨_, rfl⟩
  have q1 : (Pa c).length ≤ (rulesText al).length + 16 := by subst hc; have := pt_le ha (97 :: 108 :: 108 :: 111 :: 119 :: 58 :: rulesText al); simp only [List.length_cons] at this; exact Nat.le_trans this (by omega)
  have q2 : (Pb c).length ≤ (rulesText re).length + 16 := by subst hc; have := pt_le (lenP re) (114 :: 101 :: 109 :: 111 :: 118 :: 101 :: 58 :: rulesText re); simp only [List.length_cons] at this; exact Nat.le_trans this (by omega)
  have q3 : (Pc c).length ≤ (rulesText un).length + 16 := by subst hc; have := pt_le (lenP un) (117 :: 110 :: 119 :: 114 :: 97 :: 112 :: 58 :: rulesText un); simp only [List.length_cons] at this; exact Nat.le_trans this (by omega)
  have q4 : (Pd c).length ≤ (joinS ns [44]).length + 16 := by subst hc; have := pt_le ht (97 :: 116 :: 116 :: 114 :: 115 :: 58 :: joinS ns [44]); simp only [List.length_cons] at this; exact Nat.le_trans this (by omega)
  have q5 : (Pe c).length ≤ (joinS dr [44]).length + 16 := by subst hc; have := pt_le (lenP dr) (100 :: 114 :: 111 :: 112 :: 58 :: joinS dr [44]); simp only [List.length_cons] at this; exact Nat.le_trans this (by omega)
  have q6 : (Pf c).length ≤ 16 := by subst hc; have := pt_le co [99, 111, 109, 109, 101, 110, 116, 115]; simp only [List.length_cons, List.length_nil] at this; exact Nat.le_trans this (by omega)
  refine Run.cut [3] [1] [0] rfl (fun vs bs => vs = [.str (T0 ++ Pa c)] ∧ bs = [[.bool ha, .bool ht, .dat ⟨.rule, al⟩, .dat ⟨.rule, re⟩, .dat ⟨.rule, un⟩, .dat ⟨.str, ns⟩, .dat ⟨.str, dr⟩, .bool co, .bool da]]) ?_ ?_
  · apply vc_run 1000 (stop := false) rfl; simp only [push_cast, reduceIte, Nat.reduceEqDiff, Nat.reduceAdd, Nat.reduceSub, Nat.reduceLT, Int.reduceNeg, Int.reduceLE, Int.reduceLT, Int.reduceToNat, Nat.reduceLeDiff, UInt8.reduceOfNat, UInt8.reduceOfNatLT, and_self, Nat.reduceMul, decide_true, decide_false, Bool.not_true, Bool.not_false, implies_true]
    refine ⟨fun h => ⟨⟨(by simp only [szL]; omega), hs1⟩, by omega, ?_⟩, fun h => ?_⟩
    · have e : Pa c = 32 :: 97 :: 108 :: 108 :: 111 :: 119 :: 58 :: rulesText al := by subst hc; exact pt_t h
      rw [e] <;> simp [T0]
    · have e : Pa c = [] := by subst hc; exact pt_f h
      rw [e] <;> simp [T0]
  rintro vs bs ⟨rfl, rfl⟩
  simp only [push_cast, reduceIte, Nat.reduceEqDiff, Nat.reduceAdd, Nat.reduceSub, Nat.reduceLT, Int.reduceNeg, Int.reduceLE, Int.reduceLT, Int.reduceToNat, Nat.reduceLeDiff, UInt8.reduceOfNat, UInt8.reduceOfNatLT, and_self, Nat.reduceMul, decide_true, decide_false, Bool.not_true, Bool.not_false, implies_true]
  apply vc_run 1000 (stop := true) rfl; simp only [push_cast, reduceIte, Nat.reduceEqDiff, Nat.reduceAdd, Nat.reduceSub, Nat.reduceLT, Int.reduceNeg, Int.reduceLE, Int.reduceLT, Int.reduceToNat, Nat.reduceLeDiff, UInt8.reduceOfNat, UInt8.reduceOfNatLT, and_self, Nat.reduceMul, decide_true, decide_false, Bool.not_true, Bool.not_false, implies_true]
  refine Run.cut [3] [1] [0] rfl (fun vs bs => vs = [.str (T0 ++ Pa c ++ Pb c)] ∧ bs = [[.bool ha, .bool ht, .dat ⟨.rule, al⟩, .dat ⟨.rule, re⟩, .dat ⟨.rule, un⟩, .dat ⟨.str, ns⟩, .dat ⟨.str, dr⟩, .bool co, .bool da]]) ?_ ?_
  · apply vc_run 1000 (stop := false) rfl; simp only [push_cast, reduceIte, Nat.reduceEqDiff, Nat.reduceAdd, Nat.reduceSub, Nat.reduceLT, Int.reduceNeg, Int.reduceLE, Int.reduceLT, Int.reduceToNat, Nat.reduceLeDiff, UInt8.reduceOfNat, UInt8.reduceOfNatLT, and_self, Nat.reduceMul, decide_true, decide_false, Bool.not_true, Bool.not_false, implies_true]
    refine ⟨fun h => ⟨⟨(by simp only [szL]; omega), hs2⟩, by omega, ?_⟩, fun h => ?_⟩
    · have e : Pb c = 32 :: 114 :: 101 :: 109 :: 111 :: 118 :: 101 :: 58 :: rulesText re := by subst hc; exact pt_t h
      rw [e] <;> simp [T0]
    · have e : Pb c = [] := by subst hc; exact pt_f h
      rw [e] <;> simp [T0]
  rintro vs bs ⟨rfl, rfl⟩
  simp only [push_cast, reduceIte, Nat.reduceEqDiff, Nat.reduceAdd, Nat.reduceSub, Nat.reduceLT, Int.reduceNeg, Int.reduceLE, Int.reduceLT, Int.reduceToNat, Nat.reduceLeDiff, UInt8.reduceOfNat, UInt8.reduceOfNatLT, and_self, Nat.reduceMul, decide_true, decide_false, Bool.not_true, Bool.not_false, implies_true]
  apply vc_run 1000 (stop := true) rfl; simp only [push_cast, reduceIte, Nat.reduceEqDiff, Nat.reduceAdd, Nat.reduceSub, Nat.reduceLT, Int.reduceNeg, Int.reduceLE, Int.reduceLT, Int.reduceToNat, Nat.reduceLeDiff, UInt8.reduceOfNat, UInt8.reduceOfNatLT, and_self, Nat.reduceMul, decide_true, decide_false, Bool.not_true, Bool.not_false, implies_true]
  refine Run.cut [3] [1] [0] rfl (fun vs bs => vs = [.str (T0 ++ Pa c ++ Pb c ++ Pc c)] ∧ bs = [[.bool ha, .bool ht, .dat ⟨.rule, al⟩, .dat ⟨.rule, re⟩, .dat ⟨.rule, un⟩, .dat ⟨.str, ns⟩, .dat ⟨.str, dr⟩, .bool co, .bool da]]) ?_ ?_
  · apply vc_run 1000 (stop := false) rfl; simp only [push_cast, reduceIte, Nat.reduceEqDiff, Nat.reduceAdd, Nat.reduceSub, Nat.reduceLT, Int.reduceNeg, Int.reduceLE, Int.reduceLT, Int.reduceToNat, Nat.reduceLeDiff, UInt8.reduceOfNat, UInt8.reduceOfNatLT, and_self, Nat.reduceMul, decide_true, decide_false, Bool.not_true, Bool.not_false, implies_true]
    refine ⟨fun h => ⟨⟨(by simp only [szL]; omega), hs3⟩, by omega, ?_⟩, fun h => ?_⟩
    · have e : Pc c = 32 :: 117 :: 110 :: 119 :: 114 :: 97 :: 112 :: 58 :: rulesText un := by subst hc; exact pt_t h
      rw [e] <;> simp [T0]
    · have e : Pc c = [] := by subst hc; exact pt_f h
      rw [e] <;> simp [T0]
  rintro vs bs ⟨rfl, rfl⟩
  simp only [push_cast, reduceIte, Nat.reduceEqDiff, Nat.reduceAdd, Nat.reduceSub, Nat.reduceLT, Int.reduceNeg, Int.reduceLE, Int.reduceLT, Int.reduceToNat, Nat.reduceLeDiff, UInt8.reduceOfNat, UInt8.reduceOfNatLT, and_self, Nat.reduceMul, decide_true, decide_false, Bool.not_true, Bool.not_false, implies_true]
  apply vc_run 1000 (stop := true) rfl; simp only [push_cast, reduceIte, Nat.reduceEqDiff, Nat.reduceAdd, Nat.reduceSub, Nat.reduceLT, Int.reduceNeg, Int.reduceLE, Int.reduceLT, Int.reduceToNat, Nat.reduceLeDiff, UInt8.reduceOfNat, UInt8.reduceOfNatLT, and_self, Nat.reduceMul, decide_true, decide_false, Bool.not_true, Bool.not_false, implies_true]
  refine Run.cut [3] [1] [0] rfl (fun vs bs => vs = [.str (T0 ++ Pa c ++ Pb c ++ Pc c ++ Pd c)] ∧ bs = [[.bool ha, .bool ht, .dat ⟨.rule, al⟩, .dat ⟨.rule, re⟩, .dat ⟨.rule, un⟩, .dat ⟨.str, ns⟩, .dat ⟨.str, dr⟩, .bool co, .bool da]]) ?_ ?_
  · apply vc_run 1000 (stop := false) rfl; simp only [push_cast, reduceIte, Nat.reduceEqDiff, Nat.reduceAdd, Nat.reduceSub, Nat.reduceLT, Int.reduceNeg, Int.reduceLE, Int.reduceLT, Int.reduceToNat, Nat.reduceLeDiff, UInt8.reduceOfNat, UInt8.reduceOfNatLT, and_self, Nat.reduceMul, decide_true, decide_false, Bool.not_true, Bool.not_false, implies_true]
    refine ⟨fun h => ⟨⟨by omega, by omega⟩, by omega, by omega, ?_⟩, fun h => ?_⟩
    · have e : Pd c = 32 :: 97 :: 116 :: 116 :: 114 :: 115 :: 58 :: joinS ns [44] := by subst hc; exact pt_t h
      rw [e] <;> simp [T0]
    · have e : Pd c = [] := by subst hc; exact pt_f h
      rw [e] <;> simp [T0]
  rintro vs bs ⟨rfl, rfl⟩
  simp only [push_cast, reduceIte, Nat.reduceEqDiff, Nat.reduceAdd, Nat.reduceSub, Nat.reduceLT, Int.reduceNeg, Int.reduceLE, Int.reduceLT, Int.reduceToNat, Nat.reduceLeDiff, UInt8.reduceOfNat, UInt8.reduceOfNatLT, and_self, Nat.reduceMul, decide_true, decide_false, Bool.not_true, Bool.not_false, implies_true]
  apply vc_run 1000 (stop := true) rfl; simp only [push_cast, reduceIte, Nat.reduceEqDiff, Nat.reduceAdd, Nat.reduceSub, Nat.reduceLT, Int.reduceNeg, Int.reduceLE, Int.reduceLT, Int.reduceToNat, Nat.reduceLeDiff, UInt8.reduceOfNat, UInt8.reduceOfNatLT, and_self, Nat.reduceMul, decide_true, decide_false, Bool.not_true, Bool.not_false, implies_true]
  refine Run.cut [3] [1] [0] rfl (fun vs bs => vs = [.str (T0 ++ Pa c ++ Pb c ++ Pc c ++ Pd c ++ Pe c)] ∧ bs = [[.bool ha, .bool ht, .dat ⟨.rule, al⟩, .dat ⟨.rule, re⟩, .dat ⟨.rule, un⟩, .dat ⟨.str, ns⟩, .dat ⟨.str, dr⟩, .bool co, .bool da]]) ?_ ?_
  · apply vc_run 1000 (stop := false) rfl; simp only [push_cast, reduceIte, Nat.reduceEqDiff, Nat.reduceAdd, Nat.reduceSub, Nat.reduceLT, Int.reduceNeg, Int.reduceLE, Int.reduceLT, Int.reduceToNat, Nat.reduceLeDiff, UInt8.reduceOfNat, UInt8.reduceOfNatLT, and_self, Nat.reduceMul, decide_true, decide_false, Bool.not_true, Bool.not_false, implies_true]
    refine ⟨fun h => ⟨⟨by omega, by omega⟩, by omega, by omega, ?_⟩, fun h => ?_⟩
    · have e : Pe c = 32 :: 100 :: 114 :: 111 :: 112 :: 58 :: joinS dr [44] := by subst hc; exact pt_t h
      rw [e] <;> simp [T0]
    · have e : Pe c = [] := by subst hc; exact pt_f h
      rw [e] <;> simp [T0]
  rintro vs bs ⟨rfl, rfl⟩
  simp only [push_cast, reduceIte, Nat.reduceEqDiff, Nat.reduceAdd, Nat.reduceSub, Nat.reduceLT, Int.reduceNeg, Int.reduceLE, Int.reduceLT, Int.reduceToNat, Nat.reduceLeDiff, UInt8.reduceOfNat, UInt8.reduceOfNatLT, and_self, Nat.reduceMul, decide_true, decide_false, Bool.not_true, Bool.not_false, implies_true]
  apply vc_run 1000 (stop := true) rfl; simp only [push_cast, reduceIte, Nat.reduceEqDiff, Nat.reduceAdd, Nat.reduceSub, Nat.reduceLT, Int.reduceNeg, Int.reduceLE, Int.reduceLT, Int.reduceToNat, Nat.reduceLeDiff, UInt8.reduceOfNat, UInt8.reduceOfNatLT, and_self, Nat.reduceMul, decide_true, decide_false, Bool.not_true, Bool.not_false, implies_true]
  refine Run.cut [3] [1] [0] rfl (fun vs bs => vs = [.str (T0 ++ Pa c ++ Pb c ++ Pc c ++ Pd c ++ Pe c ++ Pf c)] ∧ bs = [[.bool ha, .bool ht, .dat ⟨.rule, al⟩, .dat ⟨.rule, re⟩, .dat ⟨.rule, un⟩, .dat ⟨.str, ns⟩, .dat ⟨.str, dr⟩, .bool co, .bool da]]) ?_ ?_
  · apply vc_run 1000 (stop := false) rfl; simp only [push_cast, reduceIte, Nat.reduceEqDiff, Nat.reduceAdd, Nat.reduceSub, Nat.reduceLT, Int.reduceNeg, Int.reduceLE, Int.reduceLT, Int.reduceToNat, Nat.reduceLeDiff, UInt8.reduceOfNat, UInt8.reduceOfNatLT, and_self, Nat.reduceMul, decide_true, decide_false, Bool.not_true, Bool.not_false, implies_true]
    refine ⟨fun h => ⟨by omega, ?_⟩, fun h => ?_⟩
    · have e : Pf c = 32 :: [99, 111, 109, 109, 101, 110, 116, 115] := by subst hc; exact pt_t h
      rw [e] <;> simp [T0]
    · have e : Pf c = [] := by subst hc; exact pt_f h
      rw [e] <;> simp [T0]
  rintro vs bs ⟨rfl, rfl⟩
  simp only [push_cast, reduceIte, Nat.reduceEqDiff, Nat.reduceAdd, Nat.reduceSub, Nat.reduceLT, Int.reduceNeg, Int.reduceLE, Int.reduceLT, Int.reduceToNat, Nat.reduceLeDiff, UInt8.reduceOfNat, UInt8.reduceOfNatLT, and_self, Nat.reduceMul, decide_true, decide_false, Bool.not_true, Bool.not_false, implies_true]
  apply vc_run 1000 (stop := true) rfl; simp only [push_cast, reduceIte, Nat.reduceEqDiff, Nat.reduceAdd, Nat.reduceSub, Nat.reduceLT, Int.reduceNeg, Int.reduceLE, Int.reduceLT, Int.reduceToNat, Nat.reduceLeDiff, UInt8.reduceOfNat, UInt8.reduceOfNatLT, and_self, Nat.reduceMul, decide_true, decide_false, Bool.not_true, Bool.not_false, implies_true]
  refine Run.cut [3] [1] [0] rfl (fun vs bs => vs = [.str (T0 ++ Pa c ++ Pb c ++ Pc c ++ Pd c ++ Pe c ++ Pf c ++ Pg c)] ∧ bs = [[.bool ha, .bool ht, .dat ⟨.rule, al⟩, .dat ⟨.rule, re⟩, .dat ⟨.rule, un⟩, .dat ⟨.str, ns⟩, .dat ⟨.str, dr⟩, .bool co, .bool da]]) ?_ ?_
  · apply vc_run 1000 (stop := false) rfl; simp only [push_cast, reduceIte, Nat.reduceEqDiff, Nat.reduceAdd, Nat.reduceSub, Nat.reduceLT, Int.reduceNeg, Int.reduceLE, Int.reduceLT, Int.reduceToNat, Nat.reduceLeDiff, UInt8.reduceOfNat, UInt8.reduceOfNatLT, and_self, Nat.reduceMul, decide_true, decide_false, Bool.not_true, Bool.not_false, implies_true]
    refine ⟨fun h => ⟨by omega, ?_⟩, fun h => ?_⟩
    · have e : Pg c = 32 :: [100, 97, 116, 97] := by subst hc; exact pt_t h
      rw [e] <;> simp [T0]
    · have e : Pg c = [] := by subst hc; exact pt_f h
      rw [e] <;> simp [T0]
  rintro vs bs ⟨rfl, rfl⟩
  simp only [push_cast, reduceIte, Nat.reduceEqDiff, Nat.reduceAdd, Nat.reduceSub, Nat.reduceLT, Int.reduceNeg, Int.reduceLE, Int.reduceLT, Int.reduceToNat, Nat.reduceLeDiff, UInt8.reduceOfNat, UInt8.reduceOfNatLT, and_self, Nat.reduceMul, decide_true, decide_false, Bool.not_true, Bool.not_false, implies_true]
  apply vc_run 1000 (stop := true) rfl; simp only [push_cast, reduceIte, Nat.reduceEqDiff, Nat.reduceAdd, Nat.reduceSub, Nat.reduceLT, Int.reduceNeg, Int.reduceLE, Int.reduceLT, Int.reduceToNat, Nat.reduceLeDiff, UInt8.reduceOfNat, UInt8.reduceOfNatLT, and_self, Nat.reduceMul, decide_true, decide_false, Bool.not_true, Bool.not_false, implies_true]
  subst hc
  simp [configText])
end Go.Ab
