/- A place in a tree is looked for. -/
import Derived.Test.YtondigjbmieekaaFnT
import Derived.Deep.LoopGhost
import Derived.WalkMore
set_option linter.all false
set_option linter.unusedSimpArgs false
set_option linter.unusedVariables false
set_option linter.unusedSectionVars false
set_option maxRecDepth 20000
set_option maxHeartbeats 1000000
namespace Go.Ab
open Go Go.Proofs.Try
theorem lenZ_sz : ∀ (p : List Int) (l : List Node), szL szNd l ≤ 1048576 → lenZ l p
  | [], _, _ => trivial
  | i :: q, l, h => by
    have hl := szL_len szNd l
    refine ⟨by omega, lenZ_sz q _ ?_⟩
    by_cases hi : i.toNat < l.length
    · have h1 := szL_at szNd nodeD hi
      have h2 := szNd_eq (l.getD i.toNat nodeD)
      have e : l.getD i.toNat (Node.mk 0 0 [] [] [] []) = l.getD i.toNat nodeD := rfl
      rw [e]; omega
    · have e : l.getD i.toNat (Node.mk 0 0 [] [] [] []) = nodeD := by simp [List.getD, hi, nodeD]
      rw [e]; simp [nodeD, Node.kids, szL, sumL]
theorem rep_ints {ety : K → TypeId} {w : World} {R : Nat → Prop} {p : List Int} {v : Value} (h : Rep w R (dataCD ety ⟨.int, p⟩) v) :
    ∃ A cap, v = .slice A p.length cap ∧ ∀ k, k < p.length → ∃ b o, A = some ⟨b, o, none⟩ ∧ w.cell? ⟨b, o + k, none⟩ = some (.int .i64 (p.getD k 0)) := by
  have h' : Rep w R (.sl (ety .int) 1 (p.map fun n => [.sc (.int .i64 n)])) v := h
  have hfl : ∀ (p : List Int), (p.map fun n => [CD.sc (.int .i64 n)]).flatten = p.map fun n => CD.sc (.int .i64 n) := fun p => by
    induction p with
    | nil => rfl
    | cons x r ih => simp only [List.map_cons, List.flatten_cons, ih]; rfl
  cases h' with
  | sl e n els A cap us hcap hn hc hr =>
    refine ⟨A, cap, by rw [List.length_map], fun k hk => ?_⟩
    have hk' : (p.map fun n => [CD.sc (.int .i64 n)]).flatten[k]? = some (.sc (.int .i64 (p.getD k 0))) := by
      rw [hfl, List.getElem?_map, List.getElem?_eq_getElem hk]; simp [List.getD, hk]
    obtain ⟨b, o, ha, _, hu⟩ := hc k _ hk'
    have := hr k _ hk'
    generalize us k = u at hu this
    cases this
    exact ⟨b, o, ha, hu⟩
theorem rep_nodes {ety : K → TypeId} {w : World} {R : Nat → Prop} {l : List Node} {v : Value} (h : Rep w R (dataCD ety ⟨.node, l⟩) v) :
    ∃ A cap, v = .slice A l.length cap ∧ ∀ k, k < l.length → ∃ b o v', A = some ⟨b, o, none⟩ ∧ w.cell? ⟨b, o + k * 6 + 5, none⟩ = some v' ∧ Rep w R (dataCD ety ⟨.node, (l.getD k nodeD).kids⟩) v' := by
  have h' : Rep w R (.sl (ety .node) 6 (l.map (elemCD ety .node))) v := h
  cases h' with
  | sl e n els A cap us hcap hn hc hr =>
    refine ⟨A, cap, by rw [List.length_map], fun k hk => ?_⟩
    have hk' : (l.map (elemCD ety .node)).flatten[k * 6 + 5]? = some (dataCD ety ⟨.node, (l.getD k nodeD).kids⟩) := by
      refine flatten_get (n := 6) (row := elemCD ety .node (l.getD k nodeD)) (fun row hr => by obtain ⟨x, _, rfl⟩ := List.mem_map.1 hr; exact elemCD_len ety .node x) ?_ ?_
      · rw [List.getElem?_map, List.getElem?_eq_getElem hk]; simp [List.getD, hk]
      · show (nodeCD ety _)[5]? = _
        rw [nodeCD_eq]; rfl
    obtain ⟨b, o, ha, _, hu⟩ := hc _ _ hk'
    exact ⟨b, o, us (k * 6 + 5), ha, by rw [← Nat.add_assoc] at hu; exact hu, hr _ _ hk'⟩
theorem within_calls (x y z : Int) (w : World) : Calls prog 117 #[.int .i64 x, .int .i64 y, .int .i64 z] w fun e w' => e = .returned (.bool (decide (y ≤ x) && decide (x ≤ z))) ∧ w' = w := by
  go_enter func117, ntmps117
  go_wp2
  · rename_i h
    go_ret
    exact ⟨by rw [decide_eq_true h, Bool.true_and]; rfl, rfl⟩
  · rename_i h
    go_ret
    exact ⟨by rw [decide_eq_false (by omega), Bool.false_and]; rfl, rfl⟩
theorem find_walk (ety : K → TypeId) (w : World) (R : Nat → Prop) (l : List Node) (p : List Int) (v vp : Value) (hv : Rep w R (dataCD ety ⟨.node, l⟩) v) (hp : Rep w R (dataCD ety ⟨.int, p⟩) vp) (hlp : lenZ l p) (hpl : p.length ≤ 1073741824) :
    Calls prog 112 #[v, vp] w fun e w' => w' = w ∧ ∃ r, e = .returned r ∧ FR w v (.pointer none) p r := by
  obtain ⟨Ap, capp, rfl, hcp⟩ := rep_ints hp
  go_enter func112, ntmps112
  go_wp2
  go_loopg [0, 5, 10] p.length (fun k v0 v5 v10 wx => wx = w ∧ ∃ (l' : List Node) (i : Nat), i + k = p.length ∧ v10 = .int .i64 i ∧ Rep w R (dataCD ety ⟨.node, l'⟩) v0 ∧ lenZ l' (p.drop i) ∧ (∀ r, FR w v0 v5 (p.drop i) r → FR w v (.pointer none) p r))
  case atStart => exact ⟨rfl, l, 0, by omega, rfl, hv, hlp, fun r h => h⟩
  case round =>
    obtain ⟨rfl, l', i, hik, rfl, hrep, hlen, hfr⟩ := hrel
    obtain ⟨A0, c0, rfl, hc0⟩ := rep_nodes hrep
    by_cases hlt : i < p.length
    · obtain ⟨b, o, rfl, hcell⟩ := hcp i hlt
      have e117 : ∀ args w, (callFunc 117 args).run prog w = .ok (.enter 117 args) w := ent_of func117 rfl rfl
      obtain ⟨g, rfl⟩ : ∃ g, gk = g + 1 := ⟨gk - 1, by omega⟩
      have hd : p.drop i = p.getD i 0 :: p.drop (i + 1) := by rw [List.drop_eq_getElem_cons hlt]; simp [List.getD, hlt]
      rw [hd] at hfr hlen
      have hlt' : (i : Int) < (p.length : Nat) := by omega
      obtain ⟨hl1, hl2⟩ := hlen
      generalize hx : p.getD i 0 = x at *
      clear hcp hp hv hx hd hlp
      by_cases hx0 : (0 : Int) ≤ x
      · by_cases hx1 : x ≤ (l'.length : Int) - 1
        · obtain ⟨b', o', v', rfl, hv', hr'⟩ := hc0 x.toNat (by omega)
          have hx2 : x < (l'.length : Nat) := by omega
          have H1 : Aside (lenZ (l'.getD x.toNat nodeD).kids (p.drop (i + 1))) := hl2
          have H2 : Aside (∀ r, FR wr (.slice (some ⟨b', o', none⟩) l'.length c0) u5 (x :: p.drop (i + 1)) r → FR wr v (.pointer none) p r) := hfr
          have H3 : Aside (Rep wr R (dataCD ety ⟨.node, (l'.getD x.toNat nodeD).kids⟩) v') := hr'
          clear hc0 hl2 hfr hrep hr'
          go_wp2
          go_roundg g
          case measure => omega
          case rel => exact ⟨rfl, _, i + 1, by omega, rfl, H3.out, H1.out, fun r h => H2.out r (.step _ _ _ _ _ _ _ _ _ hx0 hx2 hv' h)⟩
        · clear hc0 hl2 hrep
          have hx1' : (l'.length : Int) - 1 < x := by omega
          have hd : decide (x ≤ (l'.length : Int) - 1) = false := decide_eq_false hx1
          have H2 : Aside (∀ r, FR wr (.slice A0 l'.length c0) u5 (x :: p.drop (i + 1)) r → FR wr v (.pointer none) p r) := hfr
          clear hfr
          go_wp2
          go_ret
          exact ⟨rfl, _, rfl, H2.out _ (.out _ _ _ _ _ _ (by omega))⟩
      · clear hc0 hl2 hrep
        have hx0' : x < 0 := by omega
        have H2 : Aside (∀ r, FR wr (.slice A0 l'.length c0) u5 (x :: p.drop (i + 1)) r → FR wr v (.pointer none) p r) := hfr
        clear hfr
        go_wp2
        go_ret
        exact ⟨rfl, _, rfl, H2.out _ (.out _ _ _ _ _ _ (by omega))⟩
    · have hge : i = p.length := by omega
      subst hge
      have hnl : ¬ ((p.length : Nat) : Int) < (p.length : Nat) := by omega
      go_wp2
      go_ret
      refine ⟨rfl, _, rfl, hfr _ ?_⟩
      rw [List.drop_length]
      exact .nil _ _
theorem fd_find : FindOk P0 112 := by
  refine ⟨ent_of func112 rfl rfl, fun ety w R l p v vp hv hp hlp hpl => ?_⟩
  exact find_walk ety w R l p v vp hv hp hlp hpl
def code_element : { c : Code // f71.body = some c } := ⟨_, rfl⟩
def i_element : Inl := ⟨code_element.1, [.tmp 4, .tmp 5], drOf [], ghOf []⟩
@[push_cast] theorem i_element_c : i_element.c = code_element.1 := rfl
attribute [push_cast] code_element
@[push_cast] theorem i_element_rs : i_element.rs = [.tmp 4, .tmp 5] := rfl
@[push_cast] theorem i_element_dr : i_element.dr = drOf [] := rfl
@[push_cast] theorem i_element_gh : i_element.gh = ghOf [] := rfl
@[push_cast] theorem i_element_ok (E : Env) : inlOk E i_element = true := rfl
theorem ok_element : InlOk P0 71 i_element := .of func71 rfl code_element.2 rfl rfl
def code_holder : { c : Code // f116.body = some c } := ⟨_, rfl⟩
def i_holder : Inl := ⟨code_holder.1, [.tmp 4], drOf [(4, [7], [])], ghOf []⟩
@[push_cast] theorem i_holder_c : i_holder.c = code_holder.1 := rfl
attribute [push_cast] code_holder
@[push_cast] theorem i_holder_rs : i_holder.rs = [.tmp 4] := rfl
@[push_cast] theorem i_holder_dr : i_holder.dr = drOf [(4, [7], [])] := rfl
@[push_cast] theorem i_holder_gh : i_holder.gh = ghOf [] := rfl
@[push_cast] theorem i_holder_ok (E : Env) : inlOk E i_holder = true := rfl
theorem ok_holder : InlOk P0 116 i_holder := .of func116 rfl code_holder.2 rfl rfl
end Go.Ab
