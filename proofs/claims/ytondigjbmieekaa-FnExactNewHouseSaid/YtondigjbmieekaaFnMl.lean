/- Marks: what is marked again is the same; how many marks there are. -/
import Derived.Test.YtondigjbmieekaaFnMc
set_option linter.all false
set_option linter.unusedSimpArgs false
set_option linter.unusedVariables false
set_option linter.unusedSectionVars false
set_option maxRecDepth 20000
set_option maxHeartbeats 1000000
namespace Go.Ab
open Go Go.Proofs.Try
theorem mkStL_id (l : List Str) (k : Int) : mkL mkSt one1 (mkL mkSt one1 l k) k = mkL mkSt one1 l k := mkL_idem mkSt one1 (fun _ _ => rfl) (fun _ _ => rfl) l k
theorem mkStL_c (l : List Str) (k : Int) : sumL one1 (mkL mkSt one1 l k) = sumL one1 l := mkL_sum mkSt one1 (fun _ _ => rfl) l k
theorem mkRu_c (r : Rule) (k : Int) : cRu (mkRu r k) = cRu r := by simp only [cRu, mkRu, mkStL_c]
theorem mkRu_id (r : Rule) (k : Int) : mkRu (mkRu r k) k = mkRu r k := by simp only [mkRu, mkStL_id]
theorem mkRuL_id (l : List Rule) (k : Int) : mkL mkRu cRu (mkL mkRu cRu l k) k = mkL mkRu cRu l k := mkL_idem mkRu cRu mkRu_id mkRu_c l k
theorem mkRuL_c (l : List Rule) (k : Int) : sumL cRu (mkL mkRu cRu l k) = sumL cRu l := mkL_sum mkRu cRu mkRu_c l k
theorem mkCs_c (c : Cfg) (k : Int) : cCs (mkCs c k) = cCs c := by simp only [cCs, mkCs, mkStL_c, mkRuL_c]
theorem mkCs_id (c : Cfg) (k : Int) : mkCs (mkCs c k) k = mkCs c k := by simp only [mkCs, mkStL_id, mkRuL_id, mkStL_c, mkRuL_c]
theorem mkCsL_id (l : List Cfg) (k : Int) : Mkd mkCs cCs (mkL mkCs cCs l k) k := (mkL_idem mkCs cCs mkCs_id mkCs_c l k).symm
theorem mkCsL_c (l : List Cfg) (k : Int) : sumL cCs (mkL mkCs cCs l k) = sumL cCs l := mkL_sum mkCs cCs mkCs_c l k
theorem mkNdL_id (l : List Node) (k : Int) : mkL mkNd cNd (mkL mkNd cNd l k) k = mkL mkNd cNd l k := mkL_idem mkNd cNd mkNd_id mkNd_c l k
theorem mkNdL_c (l : List Node) (k : Int) : sumL cNd (mkL mkNd cNd l k) = sumL cNd l := mkL_sum mkNd cNd mkNd_c l k
theorem mkDo_c (d : Docu) (k : Int) : cDo (mkDo d k) = cDo d := by simp only [cDo, mkDo, mkNdL_c]
theorem mkDo_id (d : Docu) (k : Int) : mkDo (mkDo d k) k = mkDo d k := by simp only [mkDo, mkNdL_id]
theorem mkDoL_id (l : List Docu) (k : Int) : Mkd mkDo cDo (mkL mkDo cDo l k) k := (mkL_idem mkDo cDo mkDo_id mkDo_c l k).symm
theorem mkDoL_c (l : List Docu) (k : Int) : sumL cDo (mkL mkDo cDo l k) = sumL cDo l := mkL_sum mkDo cDo mkDo_c l k
theorem sumS_len (l : List Str) : sumL one1 l = l.length := by
  induction l with
  | nil => rfl
  | cons x l ih =>
    have e : sumL one1 (x :: l) = 1 + sumL one1 l := by simp [sumL, one1]
    rw [e, ih, List.length_cons]; omega
theorem sumR_sz (l : List Rule) : sumL cRu l ≤ 2 * szL szRule l := by
  induction l with
  | nil => exact Nat.zero_le _
  | cons x l ih =>
    have e : sumL cRu (x :: l) = cRu x + sumL cRu l := by simp [sumL]
    have e2 : szL szRule (x :: l) = 1 + szRule x + szL szRule l := by simp [szL, sumL]; omega
    have e3 : cRu x = 2 + sumL one1 x.attrs := rfl
    have e4 := sumS_len x.attrs
    have e5 : szRule x = x.name.length + szL List.length x.attrs := rfl
    have e6 := szL_len List.length x.attrs
    rw [e, e2]; omega
theorem cCs_sz (c : Cfg) : cCs c ≤ 4 + 2 * szCfg c := by
  have h1 := sumR_sz c.allow
  have h2 := sumR_sz c.remove
  have h3 := sumR_sz c.unwrap
  have h4 := sumS_len c.attrs
  have h5 := sumS_len c.drop
  have h6 := szL_len List.length c.attrs
  have h7 := szL_len List.length c.drop
  unfold cCs szCfg; omega
theorem sumC_sz (l : List Cfg) : sumL cCs l ≤ 4 * szL szCfg l := by
  induction l with
  | nil => exact Nat.zero_le _
  | cons x l ih =>
    have e : sumL cCs (x :: l) = cCs x + sumL cCs l := by simp [sumL]
    have e2 : szL szCfg (x :: l) = 1 + szCfg x + szL szCfg l := by simp [szL, sumL]; omega
    have := cCs_sz x
    rw [e, e2]; omega
theorem sumN_sz (l : List Node) : sumL cNd l ≤ 4 * szL szNd l := by
  have := cNds_sz l
  rwa [cNds_eq, szNds_eq] at this
end Go.Ab
