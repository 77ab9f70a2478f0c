/- The engine, file 2 of 3: an abstract machine over value-like data, and the proof that what it runs, the machine runs. -/
import Derived.Test.YthfcgefegbfklaaGreatEng1
import Derived.Deep.AppendSrc
import Derived.Laws.IdiomStrings
import Derived.Laws.MakeOwn
import Derived.Deep.Upon
import Derived.Orders
import Derived.Carry
set_option linter.all false
set_option linter.unusedSimpArgs false
set_option linter.unusedVariables false
set_option linter.unusedSectionVars false
/- The engine, part P: calls that take or turn what they are handed. -/
namespace Go.Ab
open Go
section
variable {P : Program} {E : Env} {X Y : Ctx} {G : Beg} {o : Oper} {a : Act}
theorem out0_rel {c : AV} {u : Value} {F : Nat → Prop} (h : RelA X c u F) {Rc : Nat → Prop} (hR : ∀ b, X.R b → Rc b) : ∃ F', (∀ b, F' b → F b) ∧ RelA (ctx0 X.ety X.w Rc) (out0 c) u F' := by
  have any : ∀ {v : Value}, ∃ F', (∀ b, F' b → F b) ∧ RelA (ctx0 X.ety X.w Rc) .any v F' := ⟨fun _ => False, fun _ h => h.elim, .pl _ _ _ (.any _) (fun _ h => h)⟩
  have pl : ∀ {c : AV} {v : Value}, RelV (ctx0 X.ety X.w Rc) c v → ∃ F', (∀ b, F' b → F b) ∧ RelA (ctx0 X.ety X.w Rc) c v F' := fun h => ⟨fun _ => False, fun _ h => h.elim, .pl _ _ _ h (fun _ h => h)⟩
  cases h with
  | own q d v F h => exact ⟨F, fun _ h => h, .own q d u F (h.mono hR)⟩
  | pl c v F h hF =>
    cases h with
    | int k n => exact pl (.int k n)
    | u8 b => exact pl (.u8 b)
    | bool b => exact pl (.bool b)
    | str l => exact pl (.str l)
    | val v => exact pl (.val _)
    | nilS => exact pl .nilS
    | dat d v h => exact pl (.dat d u (h.mono hR))
    | dep d i off g o h0 h1 hRg h => exact pl (.dep d i off g o h0 h1 (hR g hRg) fun j cd hj => by obtain ⟨u, h1, h2⟩ := h j cd hj; exact ⟨u, h1, h2.mono hR⟩)
    | _ => exact any
  | _ => exact any
theorem outs_rel {f : AV → AV} (hf : ∀ {c : AV} {u : Value} {F : Nat → Prop}, RelA X c u F → ∀ {Rc : Nat → Prop}, (∀ b, X.R b → Rc b) → ∃ F', (∀ b, F' b → F b) ∧ RelA (ctx0 X.ety X.w Rc) (f c) u F')
    {cs : List AV} {us : List Value} {fs : Nat → Nat → Prop} (hl : cs.length = us.length) (h : ∀ (j : Nat) (c : AV) (u : Value), cs[j]? = some c → us[j]? = some u → RelA X c u (fs j)) {Rc : Nat → Prop} (hR : ∀ b, X.R b → Rc b) :
    ∃ fs' : Nat → Nat → Prop, (∀ j b, fs' j b → fs j b) ∧ ∀ (j : Nat) (c : AV) (u : Value), (cs.map f)[j]? = some c → us[j]? = some u → RelA (ctx0 X.ety X.w Rc) c u (fs' j) := by
  have key : ∀ j, ∃ F' : Nat → Prop, (∀ b, F' b → fs j b) ∧ ∀ (c : AV) (u : Value), (cs.map f)[j]? = some c → us[j]? = some u → RelA (ctx0 X.ety X.w Rc) c u F' := by
    intro j
    by_cases hj : j < cs.length
    · obtain ⟨F', h1, h2⟩ := hf (h j cs[j] (us[j]'(by omega)) (List.getElem?_eq_getElem hj) (List.getElem?_eq_getElem (by omega))) hR
      refine ⟨F', h1, fun c u hc hu => ?_⟩
      rw [List.getElem?_map, List.getElem?_eq_getElem hj] at hc
      rw [List.getElem?_eq_getElem (by omega)] at hu
      cases hc
      cases hu
      exact h2
    · refine ⟨fun _ => False, fun _ h => h.elim, fun c u hc => ?_⟩
      rw [List.getElem?_map, List.getElem?_eq_none (by omega)] at hc
      cases hc
  exact ⟨fun j => (key j).choose, fun j => (key j).choose_spec.1, fun j => (key j).choose_spec.2⟩
theorem out1_rel {c : AV} {u : Value} {F : Nat → Prop} (h : RelA X c u F) {Rc : Nat → Prop} (hR : ∀ b, X.R b → Rc b) : ∃ F', (∀ b, F' b → F b) ∧ RelA (ctx0 X.ety X.w Rc) (out1 c) u F' := by
  by_cases hc : ∃ cs, c = .agg cs
  · obtain ⟨cs, rfl⟩ := hc
    cases h with
    | agg cs vs fs F hl h hd hF =>
      obtain ⟨fs', h1, h2⟩ := outs_rel (us := vs.toList) (fun h _ hR => out0_rel h hR) (by simpa using hl) (fun j c u hj hu => h j c u hj (by simpa using hu)) hR
      refine ⟨fun b => ∃ j, j < cs.length ∧ fs' j b, fun b ⟨j, hj, hb⟩ => (hF b).2 ⟨j, hj, h1 j b hb⟩, ?_⟩
      exact .agg _ vs fs' _ (by simpa using hl) (fun j c u hj hu => h2 j c u hj (by simpa using hu)) (fun j k b hj hk e1 e2 => hd j k b (by simpa using hj) (by simpa using hk) (h1 j b e1) (h1 k b e2)) (fun b => by simp)
    | pl c v F h hF =>
      cases h with
      | agg cs vs hl h =>
        obtain ⟨fs', h1, h2⟩ := outs_rel (fs := fun _ _ => False) (us := vs.toList) (fun h _ hR => out0_rel h hR) (by simpa using hl) (fun j c u hj hu => .pl _ _ _ (h j c u hj (by simpa using hu)) fun _ h => h) hR
        refine ⟨fun _ => False, fun _ h => h.elim, ?_⟩
        exact .agg _ vs fs' _ (by simpa using hl) (fun j c u hj hu => h2 j c u hj (by simpa using hu)) (fun j k b _ _ e1 _ => (h1 j b e1).elim) (fun b => ⟨fun h => h.elim, fun ⟨j, _, hb⟩ => h1 j b hb⟩)
  · have e : out1 c = out0 c := by cases c <;> first | rfl | exact absurd ⟨_, rfl⟩ hc
    rw [e]
    exact out0_rel h hR
/-- What an argument is when it has been handed over. -/
def PassJ (X : Ctx) (m : Md) (c : AV) (u : Value) (F : Nat → Prop) : Prop :=
  match m with
  | .rd => RelV X c u ∧ ∀ b, ¬ F b
  | _ => ∀ Rc : Nat → Prop, (∀ b, X.R b → Rc b) → ∃ F', (∀ b, F' b → F b) ∧ RelA (ctx0 X.ety X.w Rc) c u F'
theorem PassJ.step {m : Md} {c : AV} {u : Value} {F : Nat → Prop} (h : PassJ X m c u F) (s : Same X Y) : PassJ Y m c u F := by
  cases m with
  | rd => exact ⟨h.1.ext s.ext, h.2⟩
  | tk => intro Rc hR; rw [s.ext.ety, s.w]; exact h Rc (by rw [← s.R]; exact hR)
  | io => intro Rc hR; rw [s.ext.ety, s.w]; exact h Rc (by rw [← s.R]; exact hR)
def Passed (X : Ctx) (G : Beg) (m : Md) (r : AV × Hp) (u : Value) : Prop :=
  ∃ F, WRel { X with hp := r.2 } G ∧ Same X { X with hp := r.2 } ∧ Foot X { X with hp := r.2 } (fun _ => False) ∧ PassJ { X with hp := r.2 } m r.1 u F ∧ Free { X with hp := r.2 } G F ∧ ∀ b, F b → ∃ id, live X id ∧ (X.ob id).F b
theorem pass_any (hw : WRel X G) {m : Md} {u : Value} : Passed X G m (.any, X.hp) u :=
  ⟨fun _ => False, hw, .refl X, .refl X, by cases m <;> first | exact ⟨.any _, fun _ h => h⟩ | exact fun _ _ => ⟨fun _ => False, fun _ h => h, .pl _ _ _ (.any _) (fun _ h => h)⟩, .empty, fun _ h => h.elim⟩
theorem pass_take (hw : WRel X G) {m : Md} (hm : m ≠ .rd) {c : AV} {u : Value} (h : RelV X c u) : Passed X G m (out1 (take1 c X.hp).1, (take1 c X.hp).2) u := by
  obtain ⟨F, h1, h2, h3, h4, h5, h6⟩ := take1_rel hw h
  refine ⟨F, h1, h2, h3, ?_, h5, h6⟩
  cases m with
  | rd => exact absurd rfl hm
  | tk => exact fun Rc hR => out1_rel h4 hR
  | io => exact fun Rc hR => out1_rel h4 hR
theorem box_live {id : Nat} {t : TypeId} {cs : List AV} (hb : hgt X.hp id = .box t cs) : live X id := by unfold live; rw [hb]; simp
theorem pass1_rel (hw : WRel X G) {m : Md} (hm : m ≠ .rd) {p : PS} {c : AV} {u : Value} (h : RelV X c u) : Passed X G m (pass1 m p c X.hp) u := by
  unfold pass1
  split
  · rename_i id
    split
    · rename_i t cs hb
      obtain ⟨g, arr, t', hv, _, hg, hsz, hFb, hc⟩ := box_cells hw h hb
      have hl := box_live hb
      have hk := kill_rel hw id
      obtain ⟨fs, k1, k2, k3, k4, k5⟩ := takeL_rel (X := killC X id) hk (cs := cs) (us := arr.toList) (by simp [hsz]) (fun j c u hj hu => by
        obtain ⟨u', h1, _, h2⟩ := hc j c hj
        have : u = u' := by rw [← Array.getElem?_toList, hu] at h1; simpa using h1
        subst this
        exact h2.ext (kill_same id).ext)
      have hfree := kill_free hw hl
      have hcs : (takeL cs (hput id .dead X.hp)).1.length = cs.length := by rw [k4.len]; simp [hsz]
      refine ⟨fun b => b = g ∨ ∃ j, j < cs.length ∧ fs j b, k1, (kill_same id).trans k2, ((kill_foot id).trans k3).mono (fun b h => h.elim (fun h => h) (fun h => h)), fun Rc hR => ?_, ?_, fun b hb' => ?_⟩
      · obtain ⟨fs', e1, e2⟩ := outs_rel (fun h _ hR => out1_rel h hR) k4.len k4.rel hR
        refine ⟨fun b => b = g ∨ ∃ j, j < cs.length ∧ fs' j b, fun b hb' => hb'.imp_right fun ⟨j, hj, hb'⟩ => ⟨j, hj, e1 j b hb'⟩, ?_⟩
        rw [hv]
        refine .pb _ g t' arr fs' _ hg (by rw [List.length_map, hcs, hsz]) (fun j c u hj hu => e2 j c u hj (by simpa using hu)) (fun j k n hj hk' n1 n2 => k4.dis j k n (by simpa using hj) (by simpa using hk') (e1 j n n1) (e1 k n n2)) (fun j hj n1 => ?_) (fun n => by simp [hcs])
        obtain ⟨id', h1, h2⟩ := k5 j g (by simpa using hj) (e1 j g n1)
        exact hfree.nl id' g h1 h2 ((hFb g).2 rfl)
      · have h1 : Free { killC X id with hp := (takeL cs (killC X id).hp).2 } G (X.ob id).F := hfree.foot k3 k2.w k2.R fun _ _ h => h
        refine ⟨fun b hb' => ?_, fun i b l1 l2 hb' => ?_, fun b hb' => ?_, fun b hb' => ?_⟩
        · rcases hb' with rfl | ⟨j, hj, hb'⟩
          · exact h1.nr b ((hFb b).2 rfl)
          · exact (k4.free j (by rw [show (takeL cs (killC X id).hp).1.length = cs.length from hcs]; exact hj)).nr b hb'
        · rcases hb' with rfl | ⟨j, hj, hb'⟩
          · exact h1.nl i b l1 l2 ((hFb b).2 rfl)
          · exact (k4.free j (by rw [show (takeL cs (killC X id).hp).1.length = cs.length from hcs]; exact hj)).nl i b l1 l2 hb'
        · rcases hb' with rfl | ⟨j, hj, hb'⟩
          · exact h1.lt b ((hFb b).2 rfl)
          · exact (k4.free j (by rw [show (takeL cs (killC X id).hp).1.length = cs.length from hcs]; exact hj)).lt b hb'
        · rcases hb' with rfl | ⟨j, hj, hb'⟩
          · exact h1.ok b ((hFb b).2 rfl)
          · exact (k4.free j (by rw [show (takeL cs (killC X id).hp).1.length = cs.length from hcs]; exact hj)).ok b hb'
      · rcases hb' with rfl | ⟨j, hj, hb'⟩
        · exact ⟨id, hl, (hFb b).2 rfl⟩
        · obtain ⟨id', h1, h2⟩ := k5 j b (by rw [show (takeL cs (killC X id).hp).1.length = cs.length from hcs]; exact hj) hb'
          exact ⟨id', (live_kill h1).1, h2⟩
    · exact pass_any hw
  · split
    · rename_i k
      cases h
      refine ⟨fun _ => False, hw, .refl X, .refl X, ?_, .empty, fun _ h => h.elim⟩
      have ho : ∀ (w : World) (R : Nat → Prop), RelA (ctx0 X.ety w R) (.own true ⟨k, []⟩) (.slice none 0 0) (fun _ => False) := fun w R => .own _ _ _ _ (by
        show Own w (.sl (X.ety k) k.esz []) _ _
        exact .sl _ _ [] _ [] (fun _ _ => False) _ ⟨by simp, .inl ⟨rfl, rfl⟩⟩ (fun r h => by simp at h) (fun k cd u h => by simp at h) (fun k b h => by simp at h) (fun k k' b h => by simp at h) (fun b => by simp [Value.ownBlock]))
      cases m with
      | rd => exact absurd rfl hm
      | tk => exact fun Rc _ => ⟨fun _ => False, fun _ h => h, ho _ _⟩
      | io => exact fun Rc _ => ⟨fun _ => False, fun _ h => h, ho _ _⟩
    · cases h
      refine ⟨fun _ => False, hw, .refl X, .refl X, ?_, .empty, fun _ h => h.elim⟩
      cases m with
      | rd => exact absurd rfl hm
      | tk => exact fun Rc _ => ⟨fun _ => False, fun _ h => h, .pl _ _ _ .nilS (fun _ h => h)⟩
      | io => exact fun Rc _ => ⟨fun _ => False, fun _ h => h, .pl _ _ _ .nilS (fun _ h => h)⟩
  · exact pass_take hw hm h
/-- The modes and the shapes, of each argument. -/
def mdAt : List Md → List PS → List AV → Nat → Md
  | m :: _, _ :: _, _ :: _, 0 => m
  | _ :: ms, _ :: ps, _ :: vs, j + 1 => mdAt ms ps vs j
  | _, _, _, _ => .rd
structure PassL (X : Ctx) (G : Beg) (md : Nat → Md) (cs : List AV) (us : List Value) (fs : Nat → Nat → Prop) : Prop where
  len : cs.length = us.length
  rel : ∀ (j : Nat) (c : AV) (u : Value), cs[j]? = some c → us[j]? = some u → PassJ X (md j) c u (fs j)
  dis : ∀ j k b, j < cs.length → k < cs.length → fs j b → fs k b → j = k
  free : ∀ j, j < cs.length → Free X G (fs j)
theorem passT_rel : ∀ {ms : List Md} {ps : List PS} {cs : List AV} {us : List Value} {X : Ctx}, WRel X G → cs.length = us.length → (∀ (j : Nat) (c : AV) (u : Value), cs[j]? = some c → us[j]? = some u → RelV X c u) →
    ∃ fs, WRel { X with hp := (passT ms ps cs X.hp).2 } G ∧ Same X { X with hp := (passT ms ps cs X.hp).2 } ∧ Foot X { X with hp := (passT ms ps cs X.hp).2 } (fun _ => False) ∧
      PassL { X with hp := (passT ms ps cs X.hp).2 } G (mdAt ms ps cs) (passT ms ps cs X.hp).1 us fs ∧ ∀ j b, j < cs.length → fs j b → ∃ id, live X id ∧ (X.ob id).F b := by
  have rest : ∀ {cs : List AV} {us : List Value} {X : Ctx} {md : Nat → Md}, WRel X G → cs.length = us.length → (∀ (j : Nat) (c : AV) (u : Value), cs[j]? = some c → us[j]? = some u → RelV X c u) → (∀ j, md j = .rd) →
      ∃ fs, WRel X G ∧ Same X X ∧ Foot X X (fun _ => False) ∧ PassL X G md cs us fs ∧ ∀ j b, j < cs.length → fs j b → ∃ id, live X id ∧ (X.ob id).F b :=
    fun hw hl hr hm => ⟨fun _ _ => False, hw, .refl _, .refl _, ⟨hl, fun j c u hj hu => by rw [hm]; exact ⟨hr j c u hj hu, fun _ h => h⟩, fun _ _ _ _ _ h => h.elim, fun _ _ => .empty⟩, fun _ _ _ h => h.elim⟩
  intro ms
  induction ms with
  | nil => intro ps cs us X hw hl hr; exact rest hw hl hr (fun j => rfl)
  | cons m ms ih =>
    intro ps cs us X hw hl hr
    cases ps with
    | nil => exact rest hw hl hr (fun j => rfl)
    | cons p ps =>
      cases cs with
      | nil => exact rest hw hl hr (fun j => rfl)
      | cons c cs =>
        cases us with
        | nil => cases hl
        | cons u us =>
          have hu0 := hr 0 c u rfl rfl
          have hone : Passed X G m (match m with | .rd => (c, X.hp) | m => pass1 m p c X.hp) u := by
            cases m with
            | rd => exact ⟨fun _ => False, hw, .refl X, .refl X, ⟨hu0, fun _ h => h⟩, .empty, fun _ h => h.elim⟩
            | tk => exact pass1_rel hw (by simp) hu0
            | io => exact pass1_rel hw (by simp) hu0
          have heq : passT (m :: ms) (p :: ps) (c :: cs) X.hp = ((match m with | .rd => (c, X.hp) | m => pass1 m p c X.hp).1 :: (passT ms ps cs (match m with | .rd => (c, X.hp) | m => pass1 m p c X.hp).2).1, (passT ms ps cs (match m with | .rd => (c, X.hp) | m => pass1 m p c X.hp).2).2) := by cases m <;> rfl
          rw [heq]
          generalize (match m with | .rd => (c, X.hp) | m => pass1 m p c X.hp) = r at hone
          obtain ⟨F, h1, h2, h3, h4, h5, h6⟩ := hone
          obtain ⟨fs, k1, k2, k3, k4, k5⟩ := ih (ps := ps) (cs := cs) (us := us) h1 (by simpa using hl) (fun j c u hj hu => (hr (j + 1) c u (by simpa using hj) (by simpa using hu)).ext h2.ext)
          have hlen : (passT ms ps cs r.2).1.length = cs.length := by rw [k4.len]; simpa using hl.symm
          have hdis : ∀ j b, j < cs.length → fs j b → ¬ F b := fun j b hj hf hb => by
            obtain ⟨id, h7, h8⟩ := k5 j b hj hf
            exact h5.nl id b h7 h8 hb
          refine ⟨consF F fs, k1, h2.trans k2, (h3.trans k3).mono (fun b h => h.elim id id), ⟨by simp [k4.len], fun j c' u' hj hu => ?_, fun j k b hj hk e1 e2 => ?_, fun j hj => ?_⟩, fun j b hj hf => ?_⟩
          · cases j with
            | zero => simp at hj hu; subst hj; subst hu; exact h4.step k2
            | succ j => exact k4.rel j c' u' (by simpa using hj) (by simpa using hu)
          · cases j with
            | zero => cases k with
              | zero => rfl
              | succ k => exact absurd e1 (hdis k b (by rw [← hlen]; simpa using hk) e2)
            | succ j => cases k with
              | zero => exact absurd e2 (hdis j b (by rw [← hlen]; simpa using hj) e1)
              | succ k => exact congrArg (· + 1) (k4.dis j k b (by simpa using hj) (by simpa using hk) e1 e2)
          · cases j with
            | zero => exact h5.foot k3 k2.w k2.R fun _ _ h => h
            | succ j => exact k4.free j (by simpa using hj)
          · cases j with
            | zero => exact h6 b hf
            | succ j =>
              obtain ⟨id, h7, h8⟩ := k5 j b (by simpa using hj) hf
              exact (h3 id b h7 h8).resolve_right (fun h => h)
theorem passV_get : ∀ {ms : List Md} {ps : List PS} {cs ts : List AV} {hp : Hp}, ts.length = cs.length → (passV ms ps ts hp).length = ts.length ∧ ∀ (j : Nat) (c : AV), (passV ms ps ts hp)[j]? = some c → ∃ t p, ts[j]? = some t ∧
    c = match mdAt ms ps cs j with | .rd => norm p (view hp t) | _ => t := by
  have rest : ∀ {ts : List AV} {hp : Hp}, (ts.map (view hp)).length = ts.length ∧ ∀ (j : Nat) (c : AV), (ts.map (view hp))[j]? = some c → ∃ t p, ts[j]? = some t ∧ c = norm p (view hp t) := by
    refine fun {ts hp} => ⟨by simp, fun j c hj => ?_⟩
    rw [List.getElem?_map] at hj
    cases ht : ts[j]? with
    | none => rw [ht] at hj; cases hj
    | some t => rw [ht] at hj; cases hj; exact ⟨t, .sc, rfl, rfl⟩
  intro ms
  induction ms with
  | nil => intro ps cs ts hp _; exact rest
  | cons m ms ih =>
    intro ps cs ts hp hl
    cases ps with
    | nil => exact rest
    | cons p ps =>
      cases ts with
      | nil => exact ⟨rfl, fun j c hj => by simp [passV] at hj⟩
      | cons t ts =>
        cases cs with
        | nil => cases hl
        | cons c cs =>
          obtain ⟨h1, h2⟩ := ih (ps := ps) (cs := cs) (ts := ts) (hp := hp) (by simpa using hl)
          refine ⟨by simp [passV, h1], fun j c' hj => ?_⟩
          cases j with
          | zero =>
            refine ⟨t, p, rfl, ?_⟩
            cases m <;> (simp [passV] at hj; exact hj.symm)
          | succ j => exact h2 j c' (by simpa [passV] using hj)
end
end Go.Ab
/- The engine, part Q: the theorem of calls that take or turn. -/
namespace Go.Ab
open Go
section
variable {P : Program} {E : Env} {X Y Z : Ctx} {G : Beg} {o : Oper} {a : Act}
/-- What a return of a turned value leaves: X is the state ahead of the call. -/
def Back (_ Y : Ctx) (G : Beg) (r : Hp × Nat) (F : Nat → Prop) : Prop := ∃ Z : Ctx, Z.hp = r.1 ∧ Z.nx = r.2 ∧ WRel Z G ∧ Same Y Z ∧ Foot Y Z F
theorem Back.refl (hw : WRel Y G) {F : Nat → Prop} : Back X Y G (Y.hp, Y.nx) F := ⟨Y, rfl, rfl, hw, .refl Y, (Foot.refl Y).mono fun _ h => h.elim⟩
theorem back1_rel (hX : WRel X G) (hw : WRel Y G) (e : Ext X Y) {v c : AV} {u : Value} {F : Nat → Prop} (hv : RelV X v u) (hc : RelA Y c u F) (hF : Free Y G F) : Back X Y G (back1 X.hp v c Y.hp Y.nx) F := by
  unfold back1
  split
  · rename_i id cs
    split
    · rename_i t _ h0 h1
      have hid : id < X.nx := by cases hv; assumption
      cases hc with
      | pl c v F h hF' => cases h
      | pb cs b t' arr fs F hb hl h hd hnb hF' =>
        have hob : (X.ob id).v = .pointer (some ⟨b, 0, none⟩) := by
          cases hv with
          | ptr id off v hid h =>
            obtain ⟨b', h1, h2⟩ := h
            cases h2
            exact h1
        obtain ⟨Z, z1, z2, z3, z4, z5, z6, z7⟩ := bindL_rel hw (agg_apart hl h hd (fun j b hj hb => (hF' b).2 (.inr ⟨j, hj, hb⟩)) hF)
        have hidY : id < Y.nx := Nat.lt_of_lt_of_le hid e.nx
        have hidZ : id < Z.nx := Nat.lt_of_lt_of_le hidY z4.ext.nx
        refine ⟨setC Z id (.box t (bindL cs Y.hp Y.nx).1) ⟨.pointer (some ⟨b, 0, none⟩), fun n => n = b, (Z.ob id).k⟩ Z.nx, by show hput id _ Z.hp = _; rw [z1], z2, ?_, ?_, ?_⟩
        · refine setBox_rel (t' := t') (arr := arr) z3 (Nat.le_refl _) hidZ (fun _ => ⟨?_, rfl⟩) ?_ (by rw [z4.w]; exact hb) (by rw [z6]; simp) (fun j c u hj hu => z7 j c u hj (by simpa using hu))
          · rw [(z4.ext.ob id hidY).1, (e.ob id hid).1, hob]
          · refine (hF.sub (F' := fun n => n = b) fun n hn => (hF' n).2 (.inl hn)).foot z5 z4.w z4.R fun n hn hn' => ?_
            subst hn
            obtain ⟨j, hj, hb'⟩ := hn'
            exact hnb j hj hb'
        · refine z4.trans (set_same (Nat.le_refl _) fun _ => ⟨?_, rfl⟩)
          rw [(z4.ext.ob id hidY).1, (e.ob id hid).1, hob]
        · exact (z5.trans set_foot).mono fun n hn => (hF' n).2 (hn.elim (fun ⟨j, hj, h⟩ => .inr ⟨j, hj, h⟩) .inl)
    · exact .refl hw
  · rename_i id q d
    split
    · rename_i q0 d0 h0 h1
      split
      · rename_i hk
        have hid : id < X.nx := by cases hv; assumption
        obtain ⟨hu, hk0, _⟩ := row_val hX hv h0
        cases hc with
        | pl c v F h hF' => cases h
        | own q d v F h =>
          have hidY : id < Y.nx := Nat.lt_of_lt_of_le hid e.nx
          have hold : u = (Y.ob id).v ∧ d.k = (Y.ob id).k := ⟨by rw [(e.ob id hid).1, hu], by rw [(e.ob id hid).2, hk, hk0]⟩
          exact ⟨setC Y id (.row q d) ⟨u, F, d.k⟩ Y.nx, rfl, rfl, setRow_rel hw (Nat.le_refl _) hidY (fun _ => hold) hF h, set_same (Nat.le_refl _) (fun _ => hold), set_foot⟩
      · exact .refl hw
    · exact .refl hw
  · exact .refl hw
theorem backL_rel (hX : WRel X G) : ∀ {vs os : List AV} {us : List Value} {fs : Nat → Nat → Prop} {Y : Ctx}, WRel Y G → Ext X Y → (∀ (j : Nat) (c : AV) (u : Value), vs[j]? = some c → us[j]? = some u → RelV X c u) → vs.length = us.length →
    Apart Y G os us fs → Back X Y G (backL X.hp vs os Y.hp Y.nx) (fun b => ∃ j, j < os.length ∧ fs j b)
  | [], os, us, fs, Y, hw, e, hr, hl, ha => by cases os <;> exact .refl hw
  | v :: vs, [], us, fs, Y, hw, e, hr, hl, ha => .refl hw
  | v :: vs, o :: os, [], fs, Y, hw, e, hr, hl, ha => by cases hl
  | v :: vs, o :: os, u :: us, fs, Y, hw, e, hr, hl, ha => by
    obtain ⟨r0, f0, at', dj⟩ := ha.head
    obtain ⟨Z, z1, z2, z3, z4, z5⟩ := back1_rel hX hw e (hr 0 v u rfl rfl) r0 f0
    have eXZ : Ext X Z := e.trans (fun b hb _ => hw.rl b (e.R b hb)) z4.ext
    have ih := backL_rel hX (vs := vs) z3 eXZ (fun j c u hj hu => hr (j + 1) c u (by simpa using hj) (by simpa using hu)) (by simpa using hl) (at'.step z4 z5 fun j b hj h => dj j b hj h)
    rw [z1, z2] at ih
    obtain ⟨W, w1, w2, w3, w4, w5⟩ := ih
    refine ⟨W, w1, w2, w3, z4.trans w4, (z5.trans w5).mono fun b h => ?_⟩
    rcases h with h | ⟨j, hj, h⟩
    · exact ⟨0, by simp, h⟩
    · exact ⟨j + 1, by simpa using hj, h⟩
theorem backV_rel (hX : WRel X G) (hw : WRel Y G) (e : Ext X Y) {v c : AV} {u : Value} {F : Nat → Prop} (hv : RelV X v u) (hc : RelA Y c u F) (hF : Free Y G F) : Back X Y G (backV X.hp v c Y.hp Y.nx) F := by
  unfold backV
  split
  · rename_i vs os
    cases hv with
    | agg _ us hl hr =>
      cases hc with
      | pl c v F h hF' =>
        cases h with
        | agg _ _ hl' hr' =>
          obtain ⟨Z, z1, z2, z3, z4, z5⟩ := backL_rel hX hw e (us := us.toList) (fun j c u hj hu => hr j c u hj (by simpa using hu)) (by simpa using hl) (plain_apart (by simpa using hl') fun j c u hj hu => hr' j c u hj (by simpa using hu))
          exact ⟨Z, z1, z2, z3, z4, z5.mono fun b ⟨_, _, h⟩ => h.elim⟩
      | agg _ _ fs F hl' h hd hF' =>
        obtain ⟨Z, z1, z2, z3, z4, z5⟩ := backL_rel hX hw e (us := us.toList) (fun j c u hj hu => hr j c u hj (by simpa using hu)) (by simpa using hl) (agg_apart hl' h hd (fun j b hj hb => (hF' b).2 ⟨j, hj, hb⟩) hF)
        exact ⟨Z, z1, z2, z3, z4, z5.mono fun b ⟨j, hj, h⟩ => (hF' b).2 ⟨j, hj, h⟩⟩
  · exact back1_rel hX hw e hv hc hF
theorem backA_rel (hX : WRel X G) : ∀ {ms : List Md} {vs os : List AV} {us : List Value} {fs : Nat → Nat → Prop} {Y : Ctx}, WRel Y G → Ext X Y → (∀ (j : Nat) (c : AV) (u : Value), vs[j]? = some c → us[j]? = some u → RelV X c u) → vs.length = us.length →
    Apart Y G os (inouts ms us) fs → Back X Y G (backA X.hp ms vs os Y.hp Y.nx) (fun b => ∃ j, j < os.length ∧ fs j b)
  | [], vs, os, us, fs, Y, hw, e, hr, hl, ha => .refl hw
  | m :: ms, [], os, us, fs, Y, hw, e, hr, hl, ha => .refl hw
  | m :: ms, v :: vs, os, [], fs, Y, hw, e, hr, hl, ha => by cases hl
  | m :: ms, v :: vs, os, u :: us, fs, Y, hw, e, hr, hl, ha => by
    have hr' : ∀ (j : Nat) (c : AV) (u : Value), vs[j]? = some c → us[j]? = some u → RelV X c u := fun j c u hj hu => hr (j + 1) c u (by simpa using hj) (by simpa using hu)
    cases m with
    | rd => exact backA_rel hX (ms := ms) (vs := vs) hw e hr' (by simpa using hl) ha
    | tk => exact backA_rel hX (ms := ms) (vs := vs) hw e hr' (by simpa using hl) ha
    | io =>
      cases os with
      | nil => exact .refl hw
      | cons o os =>
        obtain ⟨r0, f0, at', dj⟩ := Apart.head (c := o) (u := u) (cs := os) (us := inouts ms us) ha
        obtain ⟨Z, z1, z2, z3, z4, z5⟩ := backV_rel hX hw e (hr 0 v u rfl rfl) r0 f0
        have eXZ : Ext X Z := e.trans (fun b hb _ => hw.rl b (e.R b hb)) z4.ext
        have ih := backA_rel hX (ms := ms) (vs := vs) z3 eXZ hr' (by simpa using hl) (at'.step z4 z5 fun j b hj h => dj j b hj h)
        rw [z1, z2] at ih
        obtain ⟨W, w1, w2, w3, w4, w5⟩ := ih
        refine ⟨W, w1, w2, w3, z4.trans w4, (z5.trans w5).mono fun b h => ?_⟩
        rcases h with h | ⟨j, hj, h⟩
        · exact ⟨0, by simp, h⟩
        · exact ⟨j + 1, by simpa using hj, h⟩
/-- An answer with memory of its own is the same, whatever else may be read. -/
theorem okRes0_rel {r : AV} {v : Value} {F : Nat → Prop} (h : RelA Y r v F) (hs : okRes0 r = true) (hety : Z.ety = Y.ety) (hw : Z.w = Y.w) : RelA Z r v F := by
  cases h with
  | pl c v F h hF =>
    cases h <;> first | (cases hs; done) | exact .pl _ _ _ (by constructor) hF
  | own q d v F h =>
    have : q = true := hs
    subst this
    exact .own _ _ _ _ (by rw [hety, hw]; exact h)
  | _ => cases hs
theorem okRes1_rel {r : AV} {v : Value} {F : Nat → Prop} (h : RelA Y r v F) (hs : okRes1 r = true) (hety : Z.ety = Y.ety) (hw : Z.w = Y.w) : RelA Z r v F := by
  cases h with
  | agg cs vs fs F hl h hd hF => exact .agg cs vs fs F hl (fun j c u hj hu => okRes0_rel (h j c u hj hu) (List.all_eq_true.1 hs c (List.mem_of_getElem? hj)) hety hw) hd hF
  | own q d v F h => exact okRes0_rel (.own q d v F h) hs hety hw
  | pl c v F h hF =>
    cases h with
    | agg cs vs hl h =>
      refine .agg cs vs (fun _ _ => False) F hl (fun j c u hj hu => okRes0_rel (.pl c u (fun _ => False) (h j c u hj hu) fun _ h => h) (List.all_eq_true.1 hs c (List.mem_of_getElem? hj)) hety hw) (fun _ _ _ _ _ h => h.elim) (fun b => ⟨fun h => absurd h (hF b), fun ⟨_, _, h⟩ => h.elim⟩)
    | _ => first | (cases hs; done) | exact .pl _ _ _ (by constructor) hF
  | _ => cases hs
theorem okRes_rel {r : AV} {v : Value} {F : Nat → Prop} (h : RelA Y r v F) (hs : okRes r = true) (hety : Z.ety = Y.ety) (hw : Z.w = Y.w) : RelA Z r v F := by
  cases h with
  | agg cs vs fs F hl h hd hF => exact okRes1_rel (.agg cs vs fs F hl h hd hF) hs hety hw
  | own q d v F h => exact okRes0_rel (.own q d v F h) hs hety hw
  | tup cs vs fs F hl h hd hF => exact .tup cs vs fs F hl (fun j c u hj hu => okRes1_rel (h j c u hj hu) (List.all_eq_true.1 hs c (List.mem_of_getElem? hj)) hety hw) hd hF
  | pb cs b t arr fs F hb hl h hd hnb hF => exact .pb cs b t arr fs F (by rw [hw]; exact hb) hl (fun j c u hj hu => okRes1_rel (h j c u hj hu) (List.all_eq_true.1 hs c (List.mem_of_getElem? hj)) hety hw) hd hnb hF
  | pl c v F h hF =>
    cases h with
    | tup cs vs hl h =>
      refine .tup cs vs (fun _ _ => False) F hl (fun j c u hj hu => okRes1_rel (.pl c u (fun _ => False) (h j c u hj hu) fun _ h => h) (List.all_eq_true.1 hs c (List.mem_of_getElem? hj)) hety hw) (fun _ _ _ _ _ h => h.elim) (fun b => ⟨fun h => absurd h (hF b), fun ⟨_, _, h⟩ => h.elim⟩)
    | agg cs vs hl h => exact okRes1_rel (.pl _ _ _ (.agg cs vs hl h) hF) hs hety hw
    | _ => first | (cases hs; done) | exact .pl _ _ _ (by constructor) hF
/-- What the engine says of an operation. -/
def OpH (P : Program) (X : Ctx) (G : Beg) (o : Oper) (a : Act) (v : AV) (hp : Hp) (nx : Nat) : Prop :=
  ∀ (K : Act → World → Prop) (Q : Exit → Act → World → Prop), (∀ X' u, Ext X X' → WRel X' G → X'.hp = hp → X'.nx = nx → RelV X' v u → K (a.put o.dst u) X'.w) → o.wp P a X.w K Q
theorem RelA.list {cs : List AV} {us : List Value} {F : Nat → Prop} (h : RelA Y (.agg cs) (.agg us.toArray) F) :
    ∃ fs : Nat → Nat → Prop, cs.length = us.length ∧ (∀ (j : Nat) (c : AV) (u : Value), cs[j]? = some c → us[j]? = some u → RelA Y c u (fs j)) ∧ (∀ j k b, j < cs.length → k < cs.length → fs j b → fs k b → j = k) ∧ ∀ j b, j < cs.length → fs j b → F b := by
  cases h with
  | pl c v F h hF =>
    cases h with
    | agg _ _ hl h => exact ⟨fun _ _ => False, by simpa using hl, fun j c u hj hu => .pl _ _ _ (h j c u hj (by simpa using hu)) (fun _ h => h), fun _ _ _ _ _ h => h.elim, fun _ _ _ h => h.elim⟩
  | agg _ _ fs F hl h hd hF => exact ⟨fs, by simpa using hl, fun j c u hj hu => h j c u hj (by simpa using hu), hd, fun j b hj hb => (hF b).2 ⟨j, hj, hb⟩⟩
theorem callH_sound (hE : EnvOk P E) (hety : X.ety = E.ety) (hw : WRel X G) {dst ty pos after gd} {f : Operand} {args : Array Operand} {ats : Array TypeId} {e : Operand → AV} {g : FuncId} {first caps : List AV} {sp : Spec} (hcal : E.cal g = some sp)
    (hf : RelV X (.fn g first caps) (a.eval f)) (he : ∀ x, x ∈ args.toList → RelV X (e x) (a.eval x)) {p : Option Prop} {v : AV} {hp : Hp} {nx : Nat}
    (h : callH sp (first ++ args.toList.map e ++ caps) X.hp X.nx = some (p, v, hp, nx)) (hq : ∀ q, p = some q → q) : OpH P X G ⟨dst, .call ⟨.value f, args, ats⟩, ty, pos, after, gd⟩ a v hp nx := by
  obtain ⟨fv, cv, hfv, hlen, hrel⟩ := fn_args (c := e) hf he
  generalize first ++ args.toList.map e ++ caps = L at *
  generalize hV : fv ++ args.map a.eval ++ cv = V at *
  simp only [callH] at h
  obtain ⟨fs, p1, p2, p3, p4, p5⟩ := passT_rel (ms := sp.modes) (ps := sp.ps) (cs := L) (us := V.toList) hw (by simpa using hlen) (fun j c u hj hu => hrel j c u hj (by simpa using hu))
  generalize hT : passT sp.modes sp.ps L X.hp = T at *
  obtain ⟨ts, hp1⟩ := T
  simp only at h p1 p2 p3 p4
  have htl : ts.length = L.length := by rw [p4.len, Array.length_toList, hlen]
  cases hrun : sp.run (passV sp.modes sp.ps ts hp1) with
  | none => rw [hrun] at h; cases h
  | some rr =>
  obtain ⟨p', r, outs⟩ := rr
  rw [hrun] at h
  simp only at h
  split at h
  rotate_left
  · cases h
  rename_i hres
  simp only [Option.some.injEq, Prod.mk.injEq] at h
  obtain ⟨rfl, rfl, rfl, rfl⟩ := h
  have hfn := hE.cal g sp hcal
  generalize hX1 : ({ X with hp := hp1 } : Ctx) = X1 at *
  have x1w : X1.w = X.w := by rw [← hX1]
  have x1R : X1.R = X.R := by rw [← hX1]
  have x1e : X1.ety = X.ety := by rw [← hX1]
  have x1h : X1.hp = hp1 := by rw [← hX1]
  have x1n : X1.nx = X.nx := by rw [← hX1]
  intro K Q hK
  unfold Oper.wp
  rw [run_call hfv (hE.ent g sp hcal), Oper.upon_enter, hV]
  -- what is handed over
  let F : Nat → Prop := fun b => ∃ j, j < ts.length ∧ fs j b
  have hFree : Free X1 G F := ⟨fun b ⟨j, hj, hb⟩ => (p4.free j hj).nr b hb, fun i b h1 h2 ⟨j, hj, hb⟩ => (p4.free j hj).nl i b h1 h2 hb, fun b ⟨j, hj, hb⟩ => (p4.free j hj).lt b hb, fun b ⟨j, hj, hb⟩ => (p4.free j hj).ok b hb⟩
  have main : ∀ Rc : Nat → Prop, (∀ b, X1.R b → Rc b) → (∀ b, Rc b → b < X1.w.heap.size) → (∀ b, F b → ¬ Rc b) → (ts.all noRef = true ∨ ∀ id b, live X1 id → (X1.ob id).F b → Rc b) →
      Calls P g V X.w fun e w' => ∃ (u : Value) (R' F' : Nat → Prop) (Fc : Nat → Prop), e = .returned u ∧ (∀ b, Fc b → F b) ∧ (∀ b, Rc b → R' b) ∧ (∀ b, R' b → b < w'.heap.size) ∧ (∀ b, R' b → Rc b ∨ X.w.heap.size ≤ b ∨ Fc b) ∧
        RelA (ctx0 X.ety w' R') (.agg (r :: outs)) (.agg (u :: inouts sp.modes V.toList).toArray) F' ∧ (∀ b, F' b → ¬ R' b) ∧ (∀ b, F' b → X.w.heap.size ≤ b ∨ Fc b) ∧ Keep Fc X.w w' := by
    intro Rc hRc hlt hFR hF
    obtain ⟨hn1, hn2⟩ := passV_get (ms := sp.modes) (ps := sp.ps) (cs := L) (ts := ts) (hp := hp1) htl
    have key : ∀ j, ∃ F' : Nat → Prop, (∀ b, F' b → j < ts.length ∧ fs j b) ∧ ∀ (c : AV) (u : Value), (passV sp.modes sp.ps ts hp1)[j]? = some c → V[j]? = some u → RelA (ctx0 X.ety X.w Rc) c u F' := by
      intro j
      by_cases hj : j < ts.length
      · have hjV : j < V.size := by rw [← hlen, ← htl]; exact hj
        have hjP : j < (passV sp.modes sp.ps ts hp1).length := by rw [hn1]; exact hj
        obtain ⟨t, p, ht, hcc⟩ := hn2 j _ (List.getElem?_eq_getElem hjP)
        have hJ := p4.rel j t V[j] ht (by simp [hjV])
        have : ∃ F' : Nat → Prop, (∀ b, F' b → fs j b) ∧ RelA (ctx0 X.ety X.w Rc) ((passV sp.modes sp.ps ts hp1)[j]) V[j] F' := by
          rw [hcc]
          cases hm : mdAt sp.modes sp.ps L j with
          | rd =>
            rw [hm] at hJ
            refine ⟨fun _ => False, fun _ h => h.elim, .pl _ _ _ (norm_rel ?_) (fun _ h => h)⟩
            have := view_rel p1 hRc hJ.1 (hF.imp (fun h => List.all_eq_true.1 h t (List.mem_of_getElem? ht)) id)
            rw [x1h, x1e, x1w] at this
            exact this
          | tk =>
            rw [hm] at hJ
            have := hJ Rc hRc
            rw [x1e, x1w] at this
            exact this
          | io =>
            rw [hm] at hJ
            have := hJ Rc hRc
            rw [x1e, x1w] at this
            exact this
        obtain ⟨F', h1, h2⟩ := this
        refine ⟨F', fun b hb => ⟨hj, h1 b hb⟩, fun c u hc hu => ?_⟩
        rw [List.getElem?_eq_getElem hjP] at hc
        rw [Array.getElem?_eq_getElem hjV] at hu
        cases hc
        cases hu
        exact h2
      · exact ⟨fun _ => False, fun _ h => h.elim, fun c u hc => by rw [List.getElem?_eq_none (by rw [hn1]; omega)] at hc; cases hc⟩
    let fc := fun j => (key j).choose
    have fc1 : ∀ j b, fc j b → j < ts.length ∧ fs j b := fun j => (key j).choose_spec.1
    have hargs : RelA (ctx0 X.ety X.w Rc) (.agg (passV sp.modes sp.ps ts hp1)) (.agg V) (fun b => ∃ j, j < (passV sp.modes sp.ps ts hp1).length ∧ fc j b) :=
      .agg _ V fc _ (by rw [hn1, htl, hlen]) (fun j c u hj hu => (key j).choose_spec.2 c u hj hu) (fun j k b _ _ e1 e2 => p4.dis j k b (fc1 j b e1).1 (fc1 k b e2).1 (fc1 j b e1).2 (fc1 k b e2).2) (fun _ => Iff.rfl)
    have hFc : ∀ b, (∃ j, j < (passV sp.modes sp.ps ts hp1).length ∧ fc j b) → F b := fun b ⟨j, _, hb⟩ => ⟨j, fc1 j b hb⟩
    have := hfn _ _ _ _ hrun hq X.w Rc V _ (by rw [← hety]; exact hargs) (by rw [← x1w]; exact hlt) (fun b hb => hFR b (hFc b hb)) (fun b hb => by rw [← x1w]; exact hFree.lt b (hFc b hb))
    refine this.mono fun en w' hh => ?_
    obtain ⟨u, R', F', h1, h2, h3, h4, h5, h6, h7, h8⟩ := hh
    exact ⟨u, R', F', _, h1, hFc, h2, h3, h4, by rw [hety]; exact h5, h6, h7, h8⟩
  -- what comes back
  have tail : ∀ (u : Value) (w' : World) (R1 F' Fc : Nat → Prop), (∀ b, Fc b → F b) → Keep Fc X.w w' → (∀ b, X1.R b → R1 b) → (∀ b, R1 b → X1.R b ∨ X1.w.heap.size ≤ b ∨ F b) → (∀ b, R1 b → b < w'.heap.size) →
      RelA { X1 with w := w', R := R1 } (.agg (r :: outs)) (.agg (u :: inouts sp.modes V.toList).toArray) F' → (∀ b, F' b → ¬ R1 b) → (∀ b, F' b → X.w.heap.size ≤ b ∨ Fc b) →
      K (a.put dst u) w' := by
    intro u w' R1 F' Fc hFc hk hR hn hl hr hFR hFn
    have hkF : Keep F X1.w w' := by rw [x1w]; exact hk.mono hFc
    have e2 := world_ext (R' := R1) hFree hkF hR
    have w2 := world_rel p1 hFree hkF hR hn hl
    generalize hX2 : ({ X1 with w := w', R := R1 } : Ctx) = X2 at *
    have x2w : X2.w = w' := by rw [← hX2]
    have x2R : X2.R = R1 := by rw [← hX2]
    have x2h : X2.hp = hp1 := by rw [← hX2]; exact x1h
    have x2n : X2.nx = X.nx := by rw [← hX2]; exact x1n
    have x2l : ∀ id, live X2 id → live X1 id := fun id h => by rw [← hX2] at h; exact h
    have x2o : ∀ id, X2.ob id = X1.ob id := fun id => by rw [← hX2]
    have eX2 : Ext X X2 := p2.ext.trans (fun b _ hs => by rw [x1w]; exact hs) e2
    have hF2 : Free X2 G F' := by
      refine ⟨fun b hb => by rw [x2R]; exact hFR b hb, fun i b h1 h2 hb => ?_, fun b hb => hr.lt b hb, fun b hb => ?_⟩
      · rw [x2o] at h2
        have hl1 := x2l i h1
        rcases hFn b hb with h | h
        · have := live_lt_heap p1 hl1 h2
          rw [x1w] at this
          omega
        · exact hFree.nl i b hl1 h2 (hFc b h)
      · rcases hFn b hb with h | h
        · exact .inl (Nat.le_trans hw.kp.size h)
        · exact hFree.ok b (hFc b h)
    obtain ⟨gs, g1, g2, g3, g4⟩ := hr.list
    have hap : Apart X2 G (r :: outs) (u :: inouts sp.modes V.toList) gs := ⟨g1, g2, g3, fun j hj => hF2.sub fun b hb => g4 j b hj hb⟩
    obtain ⟨r0, f0, at', dj⟩ := hap.head
    obtain ⟨Y, y1, y2, y3, y4, y5, y6⟩ := bindV_rel w2 r0 f0
    have eXY : Ext X Y := eX2.trans (fun b hb _ => w2.rl b (eX2.R b hb)) y4.ext
    obtain ⟨Z, z1, z2, z3, z4, z5⟩ := backA_rel hw (ms := sp.modes) (vs := L) (us := V.toList) y3 eXY (fun j c u hj hu => hrel j c u hj (by simpa using hu)) (by simpa using hlen) (at'.step y4 y5 fun j b hj h => dj j b hj h)
    have := hK Z u (eXY.trans (fun b hb _ => y3.rl b (eXY.R b hb)) z4.ext) z3 (by rw [z1, y1, y2, x2h, x2n]) (by rw [z2, y1, y2, x2h, x2n]) (by rw [← x2h, ← x2n]; exact y6.ext z4.ext)
    rw [z4.w, y4.w, x2w] at this
    exact this
  rw [Bool.or_eq_true, Bool.and_eq_true] at hres
  rcases hres with ⟨hs, hos⟩ | hno
  · refine (main (fun b => X1.R b ∨ ∃ id, live X1 id ∧ (X1.ob id).F b) (fun b h => .inl h) (fun b h => ?_) (fun b hb h => ?_) (.inr fun id b h1 h2 => .inr ⟨id, h1, h2⟩)).mono fun en w' hh => ?_
    · rcases h with h | ⟨id, h1, h2⟩
      · exact p1.rl b h
      · exact live_lt_heap p1 h1 h2
    · rcases h with h | ⟨id, h1, h2⟩
      · exact hFree.nr b hb h
      · exact hFree.nl id b h1 h2 hb
    · obtain ⟨u, R', F', Fc, rfl, hFc, h2, h3, h4, h5, h6, h7, h8⟩ := hh
      obtain ⟨gs, g1, g2, g3, g4⟩ := h5.list
      refine tail u w' X1.R (fun b => ∃ j, j < (r :: outs).length ∧ gs j b) Fc hFc h8 (fun _ h => h) (fun _ h => .inl h) (fun b hb => Nat.lt_of_lt_of_le (p1.rl b hb) (by rw [x1w]; exact h8.size)) ?_ (fun b ⟨j, hj, hb⟩ hR => h6 b (g4 j b hj hb) (h2 b (.inl hR))) (fun b ⟨j, hj, hb⟩ => h7 b (g4 j b hj hb))
      refine .agg _ _ gs _ (by simpa using g1) (fun j c u' hj hu => ?_) g3 (fun _ => Iff.rfl)
      refine okRes_rel (Y := ctx0 X.ety w' R') (g2 j c u' hj (by simpa using hu)) ?_ x1e rfl
      cases j with
      | zero => simp at hj; subst hj; exact hs
      | succ j => exact List.all_eq_true.1 hos c (List.mem_of_getElem? (by simpa using hj))
  · refine (main X1.R (fun _ h => h) p1.rl hFree.nr (.inl hno)).mono fun en w' hh => ?_
    obtain ⟨u, R', F', Fc, rfl, hFc, h2, h3, h4, h5, h6, h7, h8⟩ := hh
    have e0 : Ext (ctx0 X.ety w' R') { X1 with w := w', R := R' } := by rw [← x1e]; exact ctx0_ext { X1 with w := w', R := R' } rfl (fun _ h => h)
    exact tail u w' R' F' Fc hFc h8 h2 (fun b hb => (h4 b hb).imp id (Or.imp (by rw [x1w]; exact id) (hFc b))) h3 (h5.ext e0 rfl) h6 h7
end
end Go.Ab
/- The engine, part R: memory that is written: new blocks, cells that are set; the cells of an owned row. -/
namespace Go.Ab
open Go
theorem keep_alloc (w : World) (ob : Obj) : Keep (fun _ => False) w (w.alloc ob) := by
  refine ⟨rfl, rfl, rfl, ?_, fun b hb _ => ?_⟩
  · show w.heap.size ≤ (w.heap.push ob).size
    simp
  · show (w.heap.push ob)[b]? = _
    rw [Array.getElem?_push_lt hb]
    simp
theorem keep_alloc_drew (w : World) (ob : Obj) : Keep (fun _ => False) w (w.drew.alloc ob) := by
  refine ⟨rfl, rfl, rfl, ?_, fun b hb _ => ?_⟩
  · show w.heap.size ≤ (w.heap.push ob).size
    simp
  · show (w.heap.push ob)[b]? = _
    rw [Array.getElem?_push_lt hb]
    simp
theorem alloc_new (w : World) (ob : Obj) : (w.alloc ob).heap[w.heap.size]? = some ob := by
  show (w.heap.push ob)[w.heap.size]? = _
  simp
theorem alloc_new_drew (w : World) (ob : Obj) : (w.drew.alloc ob).heap[w.heap.size]? = some ob := by
  show (w.heap.push ob)[w.heap.size]? = _
  simp
theorem keep_setCell (w : World) (g j : Nat) (v : Value) : Keep (fun b => b = g) w (w.setCell ⟨g, j, none⟩ v) := by
  refine ⟨rfl, rfl, rfl, ?_, fun b hb hn => ?_⟩
  · show w.heap.size ≤ (w.heap.modify g _).size
    simp
  · show (w.heap.modify g _)[b]? = _
    rw [Array.getElem?_modify, if_neg (fun e => hn e.symm)]
/-- Cells are stored. -/
theorem st_cells {P : Program} {g o : Nat} {t : TypeId} {fz : Nat × Nat} : ∀ (vs : List Value) (i : Nat) (cur : Array Value) (w : World), w.heap[g]? = some (.cells cur t fz) → (∀ k : Nat, k < cur.size → ¬ (fz.1 ≤ k ∧ k < fz.2)) → o + i + vs.length ≤ cur.size →
    (∀ v ∈ vs, v.oneCell' = true) → ∃ w' cur', (storeCells ⟨g, o, none⟩ vs i).run P w = .ok () w' ∧ w'.heap[g]? = some (.cells cur' t fz) ∧ cur'.size = cur.size ∧
      (∀ k : Nat, cur'[k]? = if o + i ≤ k ∧ k < o + i + vs.length then vs[k - (o + i)]? else cur[k]?) ∧ Keep (fun b => b = g) w w'
  | [], i, cur, w, hg, hf, hl, h1 => ⟨w, cur, rfl, hg, rfl, fun k => by rw [if_neg (by simp only [List.length_nil]; omega)], .refl _ _⟩
  | v :: rest, i, cur, w, hg, hf, hl, h1 => by
    have hi : o + i < cur.size := by simp at hl; omega
    have hadd : (⟨g, o, none⟩ : Addr).add i = ⟨g, o + i, none⟩ := by unfold Addr.add; split <;> simp_all
    have hcell : w.cell? ⟨g, o + i, none⟩ = some cur[o + i] := by simp [World.cell?, hg, hi]
    have hfro : w.frozen? ⟨g, o + i, none⟩ = false := by
      have := hf (o + i) hi
      obtain ⟨a, b⟩ := fz
      simp only [World.frozen?, hg]
      simpa using fun h => Nat.le_of_not_lt fun h' => this ⟨h, h'⟩
    have hg' : (w.setCell ⟨g, o + i, none⟩ v).heap[g]? = some (.cells (cur.setIfInBounds (o + i) v) t fz) := by
      show (w.heap.modify g _)[g]? = _
      rw [Array.getElem?_modify, if_pos rfl, hg]
      rfl
    have hst : (store ((⟨g, o, none⟩ : Addr).add i) v).run P w = .ok () (w.setCell ⟨g, o + i, none⟩ v) := by
      rw [hadd, run_store P w _ v _ (h1 v (by simp)), hcell]
      simp [hfro]
    obtain ⟨w', cur', r1, r2, r3, r4, r5⟩ := st_cells (P := P) (o := o) rest (i + 1) (cur.setIfInBounds (o + i) v) _ hg' (fun k hk => hf k (by simpa using hk)) (by simp at hl ⊢; omega) (fun x hx => h1 x (by simp [hx]))
    refine ⟨w', cur', by simp only [storeCells, Sem.run_bind, hst, Result.andThen_ok, r1], r2, by rw [r3]; simp, fun k => ?_, (keep_setCell w g (o + i) v).trans r5⟩
    rw [r4 k]
    by_cases h1 : k = o + i
    · subst h1
      rw [if_neg (by omega), if_pos ⟨Nat.le_refl _, by simp⟩]
      simp [hi]
    · by_cases h2 : o + (i + 1) ≤ k ∧ k < o + (i + 1) + rest.length
      · rw [if_pos h2, if_pos (by simp only [List.length_cons]; omega)]
        have : k - (o + i) = (k - (o + (i + 1))) + 1 := by omega
        rw [this]
        simp
      · rw [if_neg h2, if_neg (by simp only [List.length_cons]; omega)]
        rw [Array.getElem?_setIfInBounds, if_neg (fun e => h1 e.symm)]
section
variable {P : Program} {E : Env} {X Y Z : Ctx} {G : Beg} {o : Oper} {a : Act}
theorem fresh_free (hw : WRel X G) {w' : World} {b : Nat} (h0 : X.w.heap.size ≤ b) (h1 : b < w'.heap.size) : Free { X with w := w' } G (fun n => n = b) := by
  refine ⟨fun n hn hR => ?_, fun i n l1 l2 hn => ?_, fun n hn => by rw [hn]; exact h1, fun n hn => .inl (by rw [hn]; exact Nat.le_trans hw.kp.size h0)⟩
  · have := hw.rl n hR
    omega
  · have := live_lt_heap hw l1 l2
    omega
/-- A new box. -/
theorem newbox (hw : WRel X G) {t t' : TypeId} {cs : List AV} {arr : Array Value} (hl : arr.size = cs.length) (hc : ∀ (j : Nat) (c : AV) (u : Value), cs[j]? = some c → arr[j]? = some u → RelV X c u) :
    ∃ X', Ext X X' ∧ WRel X' G ∧ X'.hp = hput X.nx (.box t cs) X.hp ∧ X'.nx = X.nx + 1 ∧ X'.w = X.w.alloc (.cells arr t') ∧ RelV X' (.ptr X.nx 0) (.pointer (some ⟨X.w.heap.size, 0, none⟩)) := by
  have hk := keep_alloc X.w (.cells arr t')
  have e1 := grow_ext (X := X) (R' := X.R) hk (fun _ h => h)
  have w1 := grow_rel hw (R' := X.R) hk (fun _ h => h) (fun _ h => .inl h) (fun b hb => Nat.lt_of_lt_of_le (hw.rl b hb) hk.size)
  have hnew := alloc_new X.w (.cells arr t')
  have hF := fresh_free hw (Nat.le_refl _) (lt_of_heap hnew)
  generalize hX1 : ({ X with w := X.w.alloc (.cells arr t') } : Ctx) = X1 at *
  have x1 : X1.w = X.w.alloc (.cells arr t') := by rw [← hX1]
  have xn : X1.nx = X.nx := by rw [← hX1]
  have xh : X1.hp = X.hp := by rw [← hX1]
  refine ⟨setC X1 X.nx (.box t cs) ⟨.pointer (some ⟨X.w.heap.size, 0, none⟩), fun n => n = X.w.heap.size, .u8⟩ (X.nx + 1), ?_, ?_, by show hput _ _ X1.hp = _; rw [xh], rfl, x1, ?_⟩
  · exact e1.trans (fun b hb _ => w1.rl b (e1.R b hb)) (set_same (by omega) (fun h => by omega)).ext
  · exact setBox_rel (t' := t') (arr := arr) w1 (by omega) (by omega) (fun h => by omega) hF (by rw [x1]; exact hnew) hl (fun j c u hj hu => (hc j c u hj hu).ext e1)
  · exact .ptr _ _ _ (Nat.lt_succ_self _) ⟨X.w.heap.size, by simp, rfl⟩
/-- A cell of an owned row. -/
def CellO (w : World) (R : Nat → Prop) (q : Bool) (cd : CD) (u : Value) (F : Nat → Prop) : Prop := if q then Own w cd u F else Rep w R cd u ∧ ∀ b, ¬ F b
theorem CellO.rep {w : World} {R R' : Nat → Prop} {q : Bool} {cd : CD} {u : Value} {F : Nat → Prop} (h : CellO w R q cd u F) (hR : ∀ b, R b → R' b) (hF : ∀ b, F b → R' b) : Rep w R' cd u := by
  cases q with
  | true => exact Own.rep h hF
  | false => exact h.1.mono hR
theorem CellO.keep {w w' : World} {R R' : Nat → Prop} {q : Bool} {cd : CD} {u : Value} {F : Nat → Prop} (h : CellO w R q cd u F) (hw : ∀ b, F b → w'.heap[b]? = w.heap[b]?) (hR : ∀ b, R b → b < w.heap.size → w'.heap[b]? = w.heap[b]?) (hRR : ∀ b, R b → R' b) : CellO w' R' q cd u F := by
  cases q with
  | true => exact Own.keep h hw
  | false => exact ⟨(h.1.keep hR).mono hRR, h.2⟩
/-- The cells of a row, and what hangs on each. -/
structure CellsO (w : World) (R : Nat → Prop) (q : Bool) (cds : List CD) (us : List Value) (fs : Nat → Nat → Prop) : Prop where
  len : cds.length = us.length
  rel : ∀ (k : Nat) (cd : CD) (u : Value), cds[k]? = some cd → us[k]? = some u → CellO w R q cd u (fs k)
  dis : ∀ j k b, j < us.length → k < us.length → fs j b → fs k b → j = k
theorem OwnO.mk {w : World} {R : Nat → Prop} {q : Bool} {e : TypeId} {n : Nat} {els : List (List CD)} {v : Value} {xs : List Value} {fs : Nat → Nat → Prop} {F : Nat → Prop} (ho : ownR w e n v els.length xs) (hn : ∀ row ∈ els, row.length = n)
    (hc : CellsO w R q els.flatten xs fs) (hb : ∀ k b, k < xs.length → fs k b → v.ownBlock ≠ some b) (hF : ∀ b, F b ↔ v.ownBlock = some b ∨ ∃ k, k < xs.length ∧ fs k b) : OwnO w R q (.sl e n els) v F := by
  cases q with
  | true => exact Own.sl e n els v xs fs F ho hn hc.rel hb hc.dis hF
  | false =>
    refine ⟨xs, ho, hn, fun k cd u hk hu => (hc.rel k cd u hk hu).1, fun b => (hF b).trans ⟨fun h => ?_, .inl⟩⟩
    rcases h with h | ⟨k, hk, h⟩
    · exact h
    · exact absurd h ((hc.rel k _ _ (List.getElem?_eq_getElem (by rw [hc.len]; exact hk)) (List.getElem?_eq_getElem hk)).2 b)
theorem OwnO.open {w : World} {R : Nat → Prop} {q : Bool} {e : TypeId} {n : Nat} {els : List (List CD)} {v : Value} {F : Nat → Prop} (h : OwnO w R q (.sl e n els) v F) :
    ∃ xs fs, ownR w e n v els.length xs ∧ (∀ row ∈ els, row.length = n) ∧ CellsO w R q els.flatten xs fs ∧ (∀ k b, k < xs.length → fs k b → v.ownBlock ≠ some b) ∧ ∀ b, F b ↔ v.ownBlock = some b ∨ ∃ k, k < xs.length ∧ fs k b := by
  cases q with
  | true =>
    have h : Own w (.sl e n els) v F := h
    cases h with
    | sl _ _ _ _ xs fs _ ho hn hr hb hd hF => exact ⟨xs, fs, ho, hn, ⟨by rw [flatten_len hn, ho.1], hr, hd⟩, hb, hF⟩
  | false =>
    obtain ⟨xs, ho, hn, hr, hF⟩ := h
    exact ⟨xs, fun _ _ => False, ho, hn, ⟨by rw [flatten_len hn, ho.1], fun k cd u hk hu => ⟨hr k cd u hk hu, fun _ h => h⟩, fun _ _ _ _ _ h => h.elim⟩, fun _ _ _ h => h.elim, fun b => (hF b).trans ⟨.inl, fun h => h.resolve_right fun ⟨_, _, h⟩ => h⟩⟩
/-- A cell that can be read as data. -/
theorem asL_cell {k : K} {c : AV} {u : Value} {F : Nat → Prop} {l : List k.den} {q : Bool} (h : asL k c = some (l, q)) (hc : RelA X c u F) : u.oneCell' = true ∧ (q = true → Own X.w (dataCD X.ety ⟨k, l⟩) u F) ∧ Rep X.w (fun b => X.R b ∨ F b) (dataCD X.ety ⟨k, l⟩) u := by
  have nilO : ∀ F : Nat → Prop, (∀ b, ¬ F b) → Own X.w (dataCD X.ety ⟨k, []⟩) (.slice none 0 0) F := fun F hF => by
    show Own X.w (.sl (X.ety k) k.esz []) _ _
    exact .sl _ _ [] _ [] (fun _ _ => False) _ ⟨by simp, .inl ⟨rfl, rfl⟩⟩ (fun r h => by simp at h) (fun k cd u h => by simp at h) (fun k b h => by simp at h) (fun k k' b h => by simp at h) (fun b => by simp [Value.ownBlock, hF b])
  cases hc with
  | own o d v F h' =>
    cases hd : d.asK k with
    | none => simp [asL, hd] at h
    | some l' =>
      simp [asL, hd] at h
      obtain ⟨rfl, rfl⟩ := h
      have := asK_eq hd
      subst this
      obtain ⟨xs, hx⟩ := h'.own
      obtain ⟨A, cap, e, _⟩ := own_shape hx
      refine ⟨by rw [e]; rfl, fun hq => by subst hq; exact h', ?_⟩
      cases o with
      | true => exact Own.rep h' fun b hb => .inr hb
      | false => exact OwnS.rep h' (fun b hb => .inr hb) (fun b hb => .inl hb)
  | pl c v F h' hF =>
    cases h' with
    | dat d v hr =>
      cases hd : d.asK k with
      | none => simp [asL, hd] at h
      | some l' =>
        simp [asL, hd] at h
        obtain ⟨rfl, rfl⟩ := h
        have := asK_eq hd
        subst this
        obtain ⟨A, cap, e, _⟩ := dat_shape (X := X) (.dat _ u hr)
        exact ⟨by rw [e]; rfl, (fun hq => by cases hq), hr.mono fun b hb => .inl hb⟩
    | nilS =>
      simp [asL] at h
      obtain ⟨rfl, rfl⟩ := h
      exact ⟨rfl, fun _ => nilO F hF, (nilO F hF).rep fun b hb => .inr hb⟩
    | _ => simp [asL] at h
  | _ => simp [asL] at h
/-- What is said of one cell of an element. -/
def CellJ (X : Ctx) (q : Bool) (cd : CD) (u : Value) (F : Nat → Prop) : Prop := u.oneCell' = true ∧ (q = true → Own X.w cd u F) ∧ Rep X.w (fun b => X.R b ∨ F b) cd u
theorem sc_cell {c : AV} {u : Value} {F : Nat → Prop} {q : Bool} (hp : scR0 c = true) (hn : c ≠ .nilS) (hv : ∀ v, c ≠ .val v) (hc : RelA X c u F) : CellJ X q (cellCD X.ety c) u F := by
  cases hc with
  | pl c v F h hF =>
    cases h <;> first | (cases hp; done) | exact absurd rfl hn | exact absurd rfl (hv _) | exact ⟨rfl, fun _ => .sc _ _ hF, .sc _⟩
  | _ => cases hp
theorem CellJ.weak {q q' : Bool} {cd : CD} {u : Value} {F : Nat → Prop} (h : CellJ X q cd u F) (hq : q' = true → q = true) : CellJ X q' cd u F := ⟨h.1, fun e => h.2.1 (hq e), h.2.2⟩
/-- The cells of an element that is made. -/
theorem elemMk_cells {k : K} {cs : List AV} {x : k.den} {q : Bool} (h : elemMk k cs = some (x, q)) : cs.length = (elemCD X.ety k x).length ∧
    ∀ (j : Nat) (c : AV) (cd : CD) (u : Value) (F : Nat → Prop), (elemCD X.ety k x)[j]? = some cd → cs[j]? = some c → RelA X c u F → CellJ X q cd u F := by
  have cons : ∀ {cs : List AV} {ds : List CD} {q : Bool}, (cs.length = ds.length ∧ ∀ (j : Nat) (c : AV) (cd : CD) (u : Value) (F : Nat → Prop), ds[j]? = some cd → cs[j]? = some c → RelA X c u F → CellJ X q cd u F) → ∀ {c : AV} {d : CD},
      (∀ (u : Value) (F : Nat → Prop), RelA X c u F → CellJ X q d u F) → ((c :: cs).length = (d :: ds).length ∧ ∀ (j : Nat) (x : AV) (cd : CD) (u : Value) (F : Nat → Prop), (d :: ds)[j]? = some cd → (c :: cs)[j]? = some x → RelA X x u F → CellJ X q cd u F) := by
    intro cs ds q h c d hcd
    refine ⟨by simp [h.1], fun j x cd u F h1 h2 hr => ?_⟩
    cases j with
    | zero => simp at h1 h2; subst h1; subst h2; exact hcd u F hr
    | succ j => exact h.2 j x cd u F (by simpa using h1) (by simpa using h2) hr
  have nil : ∀ {q : Bool}, (([] : List AV).length = ([] : List CD).length ∧ ∀ (j : Nat) (c : AV) (cd : CD) (u : Value) (F : Nat → Prop), ([] : List CD)[j]? = some cd → ([] : List AV)[j]? = some c → RelA X c u F → CellJ X q cd u F) := ⟨rfl, fun j c cd u F h => by simp at h⟩
  have pu : ∀ {q : Bool} {b : UInt8} (u : Value) (F : Nat → Prop), RelA X (.u8 b) u F → CellJ X q (.sc (.int .u8 (UInt8.toNat b : Nat))) u F := fun u F h => sc_cell rfl (by simp) (by simp) h
  have ps : ∀ {q : Bool} {l : Str} (u : Value) (F : Nat → Prop), RelA X (.str l) u F → CellJ X q (.sc (sv l)) u F := fun u F h => sc_cell rfl (by simp) (by simp) h
  have pi : ∀ {q : Bool} {n : Int} (u : Value) (F : Nat → Prop), RelA X (.int .i64 n) u F → CellJ X q (.sc (.int .i64 n)) u F := fun u F h => sc_cell rfl (by simp) (by simp) h
  have pb : ∀ {q : Bool} {b : Bool} (u : Value) (F : Nat → Prop), RelA X (.bool b) u F → CellJ X q (.sc (.bool b)) u F := fun u F h => sc_cell rfl (by simp) (by simp) h
  have pd : ∀ {k : K} {c : AV} {l : List k.den} {q q' : Bool}, asL k c = some (l, q) → (q' = true → q = true) → ∀ (u : Value) (F : Nat → Prop), RelA X c u F → CellJ X q' (dataCD X.ety ⟨k, l⟩) u F :=
    fun h hq u F hr => CellJ.weak (asL_cell h hr) hq
  have pn : ∀ {c : AV} {l : List Node} {q q' : Bool}, asL .node c = some (l, q) → (q' = true → q = true) → ∀ (u : Value) (F : Nat → Prop), RelA X c u F → CellJ X q' (.sl (X.ety .node) 6 (nodesCD X.ety l)) u F := by
    intro c l q q' h hq u F hr
    rw [nodesCD_map]
    exact pd h hq u F hr
  unfold elemMk at h
  split at h
  · cases h; exact cons nil pu
  · cases h; exact cons nil ps
  · cases h; exact cons nil pi
  · cases h; exact cons nil pb
  · cases h; exact cons (cons nil ps) ps
  · split at h
    · rename_i h1 h2
      cases h
      rw [show elemCD X.ety .node _ = _ from nodeCD_eq X.ety _]
      exact cons (cons (cons (cons (cons (cons nil (pd h2 (by simp))) (pd h1 (by simp +contextual))) ps) ps) pi) pi
    · cases h
  · split at h
    · rename_i h1
      cases h
      exact cons (cons (cons nil (pd h1 (by simp))) ps) pi
    · cases h
  · split at h
    · rename_i h1 h2 h3 h4 h5
      cases h
      exact cons (cons (cons (cons (cons (cons (cons (cons (cons nil pb) pb) (pd h5 (by simp +contextual))) (pd h4 (by simp +contextual))) (pd h3 (by simp +contextual))) (pd h2 (by simp +contextual))) (pd h1 (by simp +contextual))) pb) pb
    · cases h
  · split at h
    · rename_i h1
      cases h
      exact cons (cons nil (pn h1 (by simp))) ps
    · cases h
  · split at h
    · rename_i h1
      cases h
      exact cons (cons (cons (cons (cons (cons nil ps) ps) (pd h1 (by simp))) pi) pi) pi
    · cases h
  · cases h; exact cons (cons nil ps) pi
  · split at h
    · rename_i h1
      cases h
      exact cons (cons (cons (cons (cons (cons (cons nil pb) (pd h1 (by simp))) ps) ps) pi) pi) pi
    · cases h
  · cases h; exact cons (cons nil pi) ps
  · split at h
    · rename_i h1
      cases h
      exact cons nil (pn h1 (by simp))
    · cases h
  · cases h
end
end Go.Ab
/- The engine, part T: rows that are made. -/
namespace Go.Ab
open Go
section
variable {P : Program} {E : Env} {X Y Z : Ctx} {G : Beg} {o : Oper} {a : Act}
structure CellsJ (X : Ctx) (G : Beg) (q : Bool) (cds : List CD) (us : List Value) (fs : Nat → Nat → Prop) : Prop where
  len : cds.length = us.length
  rel : ∀ (k : Nat) (cd : CD) (u : Value), cds[k]? = some cd → us[k]? = some u → CellJ X q cd u (fs k)
  dis : ∀ j k b, j < us.length → k < us.length → fs j b → fs k b → j = k
  free : ∀ k, k < us.length → Free X G (fs k)
theorem Own.ext {cd : CD} {u : Value} {F : Nat → Prop} (h : Own X.w cd u F) (hw : Y.w = X.w) : Own Y.w cd u F := by rw [hw]; exact h
theorem CellJ.step {q : Bool} {cd : CD} {u : Value} {F : Nat → Prop} (h : CellJ X q cd u F) (hs : Same X Y) : CellJ Y q cd u F :=
  ⟨h.1, fun hq => by rw [hs.w]; exact h.2.1 hq, by rw [hs.w, hs.R]; exact h.2.2⟩
theorem CellsJ.nil {q : Bool} : CellsJ X G q [] [] (fun _ _ => False) := ⟨rfl, fun k cd u h => by simp at h, fun j k b h => absurd h (Nat.not_lt_zero _), fun k h => absurd h (Nat.not_lt_zero _)⟩
theorem CellsJ.weak {q q' : Bool} {cds : List CD} {us : List Value} {fs : Nat → Nat → Prop} (h : CellsJ X G q cds us fs) (hq : q' = true → q = true) : CellsJ X G q' cds us fs :=
  ⟨h.len, fun k cd u h1 h2 => (h.rel k cd u h1 h2).weak hq, h.dis, h.free⟩
theorem CellsJ.step {q : Bool} {cds : List CD} {us : List Value} {fs : Nat → Nat → Prop} {F : Nat → Prop} (h : CellsJ X G q cds us fs) (hs : Same X Y) (hf : Foot X Y F) (hd : ∀ j b, j < us.length → fs j b → ¬ F b) : CellsJ Y G q cds us fs :=
  ⟨h.len, fun k cd u h1 h2 => (h.rel k cd u h1 h2).step hs, h.dis, fun k hk => (h.free k hk).foot hf hs.w hs.R fun b h1 h2 => hd k b hk h1 h2⟩
def appF (n : Nat) (fs gs : Nat → Nat → Prop) : Nat → Nat → Prop := fun k => if k < n then fs k else gs (k - n)
theorem CellsJ.append {q : Bool} {cds ds : List CD} {us vs : List Value} {fs gs : Nat → Nat → Prop} (h : CellsJ X G q cds us fs) (k : CellsJ X G q ds vs gs) (hd : ∀ j i b, j < us.length → i < vs.length → fs j b → gs i b → False) :
    CellsJ X G q (cds ++ ds) (us ++ vs) (appF us.length fs gs) := by
  have e1 : ∀ j, j < us.length → appF us.length fs gs j = fs j := fun j hj => if_pos hj
  have e2 : ∀ j, ¬ j < us.length → appF us.length fs gs j = gs (j - us.length) := fun j hj => if_neg hj
  refine ⟨by simp [h.len, k.len], fun j cd u h1 h2 => ?_, fun i j b hi hj h1 h2 => ?_, fun j hj => ?_⟩
  · by_cases hj : j < us.length
    · rw [e1 j hj]
      rw [List.getElem?_append_left (by rw [h.len]; exact hj)] at h1
      rw [List.getElem?_append_left hj] at h2
      exact h.rel j cd u h1 h2
    · rw [e2 j hj]
      rw [List.getElem?_append_right (by rw [h.len]; omega)] at h1
      rw [List.getElem?_append_right (by omega)] at h2
      rw [h.len] at h1
      exact k.rel _ cd u h1 h2
  · simp only [List.length_append] at hi hj
    by_cases hi' : i < us.length
    · rw [e1 i hi'] at h1
      by_cases hj' : j < us.length
      · rw [e1 j hj'] at h2
        exact h.dis i j b hi' hj' h1 h2
      · rw [e2 j hj'] at h2
        exact (hd i (j - us.length) b hi' (by omega) h1 h2).elim
    · rw [e2 i hi'] at h1
      by_cases hj' : j < us.length
      · rw [e1 j hj'] at h2
        exact (hd j (i - us.length) b hj' (by omega) h2 h1).elim
      · rw [e2 j hj'] at h2
        have := k.dis _ _ b (by omega) (by omega) h1 h2
        omega
  · simp only [List.length_append] at hj
    by_cases hj' : j < us.length
    · rw [e1 j hj']; exact h.free j hj'
    · rw [e2 j hj']; exact k.free _ (by omega)
def TakenE (X : Ctx) (G : Beg) (hp : Hp) (q : Bool) (cds : List CD) (us : List Value) : Prop :=
  ∃ fs, WRel { X with hp := hp } G ∧ Same X { X with hp := hp } ∧ Foot X { X with hp := hp } (fun _ => False) ∧ CellsJ { X with hp := hp } G q cds us fs ∧ ∀ j b, j < us.length → fs j b → ∃ id, live X id ∧ (X.ob id).F b
theorem elem_cells (hw : WRel X G) {cs : List AV} {us : List Value} (hl : cs.length = us.length) (hr : ∀ (j : Nat) (c : AV) (u : Value), cs[j]? = some c → us[j]? = some u → RelV X c u) {k : K} {x : k.den} {q : Bool} (hm : elemMk k (takeL cs X.hp).1 = some (x, q)) :
    TakenE X G (takeL cs X.hp).2 q (elemCD X.ety k x) us := by
  obtain ⟨fs, h1, h2, h3, h4, h5⟩ := takeL_rel hw hl hr
  obtain ⟨e1, e2⟩ := elemMk_cells (X := { X with hp := (takeL cs X.hp).2 }) hm
  refine ⟨fs, h1, h2, h3, ⟨by rw [← e1]; exact h4.len, fun j cd u hj hu => ?_, fun j k b hj hk => h4.dis j k b (by rw [h4.len]; exact hj) (by rw [h4.len]; exact hk), fun j hj => h4.free j (by rw [h4.len]; exact hj)⟩, fun j b hj => h5 j b (by rw [h4.len]; exact hj)⟩
  have hlt : j < (takeL cs X.hp).1.length := by rw [h4.len]; exact (List.getElem?_eq_some_iff.1 hu).1
  exact e2 j _ cd u _ hj (List.getElem?_eq_getElem hlt) (h4.rel j _ u (List.getElem?_eq_getElem hlt) hu)
theorem elem_rel (hw : WRel X G) {v : AV} {u : Value} (hv : RelV X v u) {k : K} {x : k.den} {q : Bool} (hm : elemMk k (takeL (cellsOf v) X.hp).1 = some (x, q)) :
    TakenE X G (takeL (cellsOf v) X.hp).2 q (elemCD X.ety k x) u.cells.toList ∧ ∀ c ∈ u.cells.toList, c.oneCell' = true := by
  have main : ∀ us : List Value, (cellsOf v).length = us.length → (∀ (j : Nat) (c : AV) (u : Value), (cellsOf v)[j]? = some c → us[j]? = some u → RelV X c u) → TakenE X G (takeL (cellsOf v) X.hp).2 q (elemCD X.ety k x) us ∧ ∀ c ∈ us, c.oneCell' = true := by
    intro us hl hr
    have h := elem_cells hw hl hr hm
    refine ⟨h, fun c hc => ?_⟩
    obtain ⟨fs, _, _, _, h4, _⟩ := h
    obtain ⟨j, hj, rfl⟩ := List.getElem_of_mem hc
    exact (h4.rel j _ _ (List.getElem?_eq_getElem (by rw [h4.len]; exact hj)) (List.getElem?_eq_getElem hj)).1
  by_cases hc : ∃ cs, v = .agg cs
  · obtain ⟨cs, rfl⟩ := hc
    cases hv with
    | agg cs vs hl hr => exact main vs.toList (by simpa [cellsOf] using hl) (fun j c u hj hu => hr j c u hj (by simpa using hu))
  · have e : cellsOf v = [v] := by cases v <;> first | rfl | exact absurd ⟨_, rfl⟩ hc
    have := main [u] (by rw [e]; rfl) (fun j c u' hj hu => by
      rw [e] at hj
      cases j with
      | zero => simp at hj hu; subst hj; subst hu; exact hv
      | succ j => simp at hj)
    have h1 : u.cells.toList = [u] := by rw [one_cells (this.2 u (by simp))]
    rw [h1]
    exact this
theorem TakenE.cons {h1 h2 : Hp} {q q' : Bool} {cds ds : List CD} {us vs : List Value} (h : TakenE X G h1 q cds us) (k : TakenE { X with hp := h1 } G h2 q' ds vs) : TakenE X G h2 (q && q') (cds ++ ds) (us ++ vs) := by
  obtain ⟨fs, a1, a2, a3, a4, a5⟩ := h
  obtain ⟨gs, b1, b2, b3, b4, b5⟩ := k
  have hd : ∀ j i b, j < us.length → i < vs.length → fs j b → gs i b → False := fun j i b hj hi e1 e2 => by
    obtain ⟨id, l1, l2⟩ := b5 i b hi e2
    exact (a4.free j hj).nl id b l1 l2 e1
  refine ⟨appF us.length fs gs, b1, a2.trans b2, (a3.trans b3).mono (fun b h => h.elim id id), ((a4.step b2 b3 fun _ _ _ _ h => h).weak (by simp +contextual)).append (b4.weak (by simp +contextual)) hd, fun j b hj hf => ?_⟩
  simp only [List.length_append] at hj
  unfold appF at hf
  split at hf
  · rename_i hj'
    exact a5 j b hj' hf
  · obtain ⟨id, l1, l2⟩ := b5 _ b (by omega) hf
    exact (a3 id b l1 l2).resolve_right (fun h => h)
/-- The elements of a literal. -/
theorem mkElems_rel {k : K} {len : Nat} : ∀ {l : List (Nat × AV)} {vs : List Value} {i : Nat} {X : Ctx} {xs : List k.den} {q : Bool} {hp : Hp}, WRel X G → l.length = vs.length → (∀ (j : Nat) (p : Nat × AV) (u : Value), l[j]? = some p → vs[j]? = some u → RelV X p.2 u) →
    mkElems k len i l X.hp = some (xs, q, hp) → i + l.length = len ∧ xs.length = l.length ∧ (∀ (j : Nat) (p : Nat × AV), l[j]? = some p → p.1 = i + j) ∧ (∀ v ∈ vs, v.cells.size = k.esz ∧ ∀ c ∈ v.cells.toList, c.oneCell' = true) ∧
      TakenE X G hp q (xs.map (elemCD X.ety k)).flatten (vs.map (·.cells.toList)).flatten
  | [], [], i, X, xs, q, hp, hw, _, _, h => by
    simp only [mkElems] at h
    split at h
    · rename_i hi
      cases h
      exact ⟨hi, rfl, (fun j p hj => by simp at hj), (fun v hv => by cases hv), fun _ _ => False, hw, .refl X, .refl X, .nil, fun _ _ h => absurd h (Nat.not_lt_zero _)⟩
    · cases h
  | (j0, v) :: l, u :: vs, i, X, xs, q, hp, hw, hl, hr, h => by
    simp only [mkElems] at h
    split at h
    rotate_left
    · cases h
    rename_i hij
    cases hm : elemMk k (takeL (cellsOf v) X.hp).1 with
    | none => rw [hm] at h; cases h
    | some xo =>
    obtain ⟨x, o⟩ := xo
    rw [hm] at h
    simp only at h
    obtain ⟨ht, h1⟩ := elem_rel hw (hr 0 (j0, v) u rfl rfl) hm
    cases hn : mkElems k len (i + 1) l (takeL (cellsOf v) X.hp).2 with
    | none => rw [hn] at h; cases h
    | some yo =>
    obtain ⟨ys, o', hp'⟩ := yo
    rw [hn] at h
    simp only [Option.some.injEq, Prod.mk.injEq] at h
    obtain ⟨rfl, rfl, rfl⟩ := h
    have ht' := ht
    obtain ⟨fs, a1, a2, _, a4, _⟩ := ht
    obtain ⟨i1, i2, i3, i4, i5⟩ := mkElems_rel (X := { X with hp := (takeL (cellsOf v) X.hp).2 }) a1 (by simpa using hl) (fun j p u hj hu => (hr (j + 1) p u (by simpa using hj) (by simpa using hu)).ext a2.ext) hn
    refine ⟨by simp only [List.length_cons]; omega, by simp [i2], fun j p hj => ?_, fun v' hv' => ?_, ?_⟩
    · cases j with
      | zero => simp at hj; subst hj; exact hij.symm
      | succ j => rw [i3 j p (by simpa using hj)]; omega
    · cases hv' with
      | head => exact ⟨by rw [← Array.length_toList, ← a4.len, elemCD_len], h1⟩
      | tail _ hv' => exact i4 v' hv'
    · simp only [List.map_cons, List.flatten_cons]
      exact ht'.cons i5
/-- The parts laid in order. -/
theorem fill_row {n : Nat} : ∀ (l : List (Nat × Value)) (i : Nat) (arr : Array Value), (∀ p ∈ l, p.2.cells.size = n) → (∀ (j : Nat) (p : Nat × Value), l[j]? = some p → p.1 = i + j) → (i + l.length) * n ≤ arr.size →
    ∃ arr', Instr.fill (fun i => some (i * n, n)) arr l = some arr' ∧ arr'.size = arr.size ∧ ∀ k : Nat, arr'[k]? = if i * n ≤ k ∧ k < (i + l.length) * n then (l.map (·.2.cells.toList)).flatten[k - i * n]? else arr[k]?
  | [], i, arr, _, _, _ => ⟨arr, rfl, rfl, fun k => by rw [if_neg (by simp only [List.length_nil, Nat.add_zero]; omega)]⟩
  | (j0, v) :: l, i, arr, hn, hi, hl => by
    have hv := hn (j0, v) (by simp)
    have hj0 := hi 0 (j0, v) rfl
    simp only [Nat.add_zero] at hj0
    subst hj0
    have hmul : (j0 + (l.length + 1)) * n = j0 * n + n + l.length * n := by rw [Nat.add_mul, Nat.add_mul]; omega
    have hmul2 : (j0 + 1) * n = j0 * n + n := by rw [Nat.add_mul]; omega
    have hmul3 : (j0 + 1 + l.length) * n = j0 * n + n + l.length * n := by rw [Nat.add_mul, Nat.add_mul]; omega
    simp only [List.length_cons] at hl
    rw [hmul] at hl
    have hv' : v.cells.size = n := hv
    obtain ⟨f1, f2⟩ := fold_set v.cells.toList arr (j0 * n) 0
    generalize hA : ((v.cells.toList.zipIdx 0).foldl (fun (cs : Array Value) (x : Value × Nat) => cs.setIfInBounds (j0 * n + x.2) x.1) arr) = arr1 at f1 f2
    have hA' : v.cells.zipIdx.foldl (fun (cs : Array Value) (x : Value × Nat) => cs.setIfInBounds (j0 * n + x.2) x.1) arr = arr1 := by rw [← hA, ← Array.foldl_toList, Array.toList_zipIdx]
    obtain ⟨arr', g1, g2, g3⟩ := fill_row l (j0 + 1) arr1 (fun p hp => hn p (List.mem_cons_of_mem _ hp)) (fun j p hj => by rw [hi (j + 1) p (by simpa using hj)]; omega) (by rw [f1, hmul3]; exact hl)
    refine ⟨arr', ?_, by rw [g2, f1], fun k => ?_⟩
    · simp only [Instr.fill]
      rw [if_neg (by rw [hv']; simp; omega)]
      rw [show (v.cells.zipIdx.foldl (fun cs x => match x with | (c, j) => cs.setIfInBounds (j0 * n + j) c) arr) = arr1 from hA']
      exact g1
    · rw [g3 k, hmul3, hmul2]
      simp only [List.length_cons, List.map_cons, List.flatten_cons]
      rw [hmul]
      have hlen : v.cells.toList.length = n := by rw [Array.length_toList]; exact hv'
      by_cases h1 : j0 * n + n ≤ k ∧ k < j0 * n + n + l.length * n
      · rw [if_pos h1, if_pos (by omega), List.getElem?_append_right (by omega)]
        congr 1
        omega
      · rw [if_neg h1, f2 k]
        by_cases h2 : j0 * n ≤ k ∧ k < j0 * n + n
        · rw [if_pos (show j0 * n + 0 ≤ k ∧ k < j0 * n + 0 + v.cells.toList.length ∧ k < arr.size by omega), if_pos (show j0 * n ≤ k ∧ k < j0 * n + n + l.length * n by omega), List.getElem?_append_left (by omega)]
          rfl
        · rw [if_neg (show ¬ (j0 * n + 0 ≤ k ∧ k < j0 * n + 0 + v.cells.toList.length ∧ k < arr.size) by omega), if_neg (show ¬ (j0 * n ≤ k ∧ k < j0 * n + n + l.length * n) by omega)]
end
end Go.Ab
/- The engine, part U: operations that make and turn rows. -/
namespace Go.Ab
open Go
section
variable {P : Program} {E : Env} {X Y Z : Ctx} {G : Beg} {o : Oper} {a : Act}
theorem ownR.blk {w : World} {e : TypeId} {size : Nat} {v : Value} {n : Nat} {xs : List Value} (h : ownR w e size v n xs) : v.ownBlock = none ∨ ∃ b, v.ownBlock = some b ∧ b < w.heap.size := by
  rcases h.2 with ⟨rfl, _⟩ | ⟨g, cap, cur, fz, rfl, ⟨e', hg⟩, _⟩
  · exact .inl rfl
  · exact .inr ⟨g, rfl, lt_of_heap hg⟩
/-- A row comes to be (or is turned): its place is id. -/
theorem makerow (hw : WRel X G) {k : K} {xs : List k.den} {q : Bool} {us : List Value} {fs : Nat → Nat → Prop} (hc : CellsJ X G q (xs.map (elemCD X.ety k)).flatten us fs) {B : Nat → Prop} (hB : Free X G B) {w' : World} (hk : Keep B X.w w')
    (hBf : ∀ j b, j < us.length → fs j b → ¬ B b) {v : Value} (ho : ownR w' (X.ety k) k.esz v xs.length us) (hv : ∀ b, v.ownBlock = some b → B b ∨ X.w.heap.size ≤ b) {id nx : Nat} (hn : X.nx ≤ nx) (hid : id < nx) (hold : id < X.nx → v = (X.ob id).v ∧ k = (X.ob id).k) :
    ∃ X', Ext X X' ∧ WRel X' G ∧ X'.hp = hput id (.row q ⟨k, xs⟩) X.hp ∧ X'.nx = nx ∧ X'.w = w' ∧ RelV X' (.row id) v := by
  let Fs : Nat → Prop := fun b => ∃ j, j < us.length ∧ fs j b
  have hFs : Free X G Fs := ⟨fun b ⟨j, hj, hb⟩ => (hc.free j hj).nr b hb, fun i b h1 h2 ⟨j, hj, hb⟩ => (hc.free j hj).nl i b h1 h2 hb, fun b ⟨j, hj, hb⟩ => (hc.free j hj).lt b hb, fun b ⟨j, hj, hb⟩ => (hc.free j hj).ok b hb⟩
  let Fa : Nat → Prop := fun b => B b ∨ Fs b
  have hFa : Free X G Fa := ⟨fun b h => h.elim (hB.nr b) (hFs.nr b), fun i b h1 h2 h => h.elim (hB.nl i b h1 h2) (hFs.nl i b h1 h2), fun b h => h.elim (hB.lt b) (hFs.lt b), fun b h => h.elim (hB.ok b) (hFs.ok b)⟩
  let R' : Nat → Prop := fun b => X.R b ∨ (q = false ∧ Fs b)
  have hka : Keep Fa X.w w' := hk.mono fun _ h => .inl h
  have hRs : ∀ b, X.R b → R' b := fun b h => .inl h
  have e1 := world_ext (R' := R') hFa hka hRs
  have w1 := world_rel hw hFa hka hRs (fun b h => h.elim .inl fun h => .inr (.inr (.inr h.2))) (fun b h => Nat.lt_of_lt_of_le (h.elim (hw.rl b) fun h => hFs.lt b h.2) hk.size)
  generalize hX1 : ({ X with w := w', R := R' } : Ctx) = X1 at *
  have xw : X1.w = w' := by rw [← hX1]
  have xR : X1.R = R' := by rw [← hX1]
  have xh : X1.hp = X.hp := by rw [← hX1]
  have xn : X1.nx = X.nx := by rw [← hX1]
  have xe : X1.ety = X.ety := by rw [← hX1]
  have xo : ∀ i, X1.ob i = X.ob i := fun i => by rw [← hX1]
  have xl : ∀ i, live X1 i → live X i := fun i h => by rw [← hX1] at h; exact h
  let fq : Nat → Nat → Prop := fun j b => q = true ∧ fs j b
  let F' : Nat → Prop := fun b => v.ownBlock = some b ∨ ∃ j, j < us.length ∧ fq j b
  have hF' : Free X1 G F' := by
    refine ⟨fun b hb hR => ?_, fun i b h1 h2 hb => ?_, fun b hb => ?_, fun b hb => ?_⟩
    · rw [xR] at hR
      rcases hb with hb | ⟨j, hj, hq, hb⟩
      · rcases hv b hb with h | h
        · rcases hR with hR | ⟨_, j, hj, hR⟩
          · exact hB.nr b h hR
          · exact hBf j b hj hR h
        · rcases hR with hR | ⟨_, hR⟩
          · have := hw.rl b hR; omega
          · have := hFs.lt b hR; omega
      · rcases hR with hR | ⟨hq', _⟩
        · exact (hc.free j hj).nr b hb hR
        · rw [hq] at hq'; cases hq'
    · rw [xo] at h2
      have hl := xl i h1
      rcases hb with hb | ⟨j, hj, _, hb⟩
      · rcases hv b hb with h | h
        · exact hB.nl i b hl h2 h
        · have := live_lt_heap hw hl h2; omega
      · exact (hc.free j hj).nl i b hl h2 hb
    · rw [xw]
      rcases hb with hb | ⟨j, hj, _, hb⟩
      · exact ho.lt hb
      · exact Nat.lt_of_lt_of_le ((hc.free j hj).lt b hb) hk.size
    · rcases hb with hb | ⟨j, hj, _, hb⟩
      · rcases hv b hb with h | h
        · exact hB.ok b h
        · exact .inl (Nat.le_trans hw.kp.size h)
      · exact (hc.free j hj).ok b hb
  have hfree : ∀ b, Fs b → w'.heap[b]? = X.w.heap[b]? := fun b hb => by
    obtain ⟨j, hj, hb'⟩ := hb
    exact hk.block b ((hc.free j hj).lt b hb') (hBf j b hj hb')
  have hown : OwnO X1.w X1.R q (dataCD X1.ety ⟨k, xs⟩) v F' := by
    rw [xe, xw, xR]
    refine OwnO.mk (fs := fq) (by rw [List.length_map]; exact ho) (fun row hr => ?_) ⟨hc.len, fun j cd u hj hu => ?_, fun i j b hi hj h1 h2 => hc.dis i j b hi hj h1.2 h2.2⟩ (fun j b hj hb e => ?_) (fun b => Iff.rfl)
    · obtain ⟨x, _, rfl⟩ := List.mem_map.1 hr
      exact elemCD_len X.ety k x
    · have hlt : j < us.length := (List.getElem?_eq_some_iff.1 hu).1
      obtain ⟨_, c1, c2⟩ := hc.rel j cd u hj hu
      cases q with
      | true =>
        have hq : fq j = fs j := funext fun b => propext ⟨fun h => h.2, fun h => ⟨rfl, h⟩⟩
        rw [hq]
        exact Own.keep (c1 rfl) fun b hb => hfree b ⟨j, hlt, hb⟩
      | false =>
        refine ⟨(Rep.keep c2 fun b hb hs => ?_).mono fun b hb => ?_, fun b hb => by cases hb.1⟩
        · rcases hb with hb | hb
          · exact hk.block b hs fun h => hB.nr b h hb
          · exact hfree b ⟨j, hlt, hb⟩
        · exact hb.imp (fun h => h) fun hb => ⟨rfl, j, hlt, hb⟩
    · rcases hv b e with h | h
      · exact hBf j b hj hb.2 h
      · have := (hc.free j hj).lt b hb.2
        omega
  have hold1 : id < X1.nx → v = (X1.ob id).v ∧ k = (X1.ob id).k := fun h => by rw [xo]; exact hold (by rw [← xn]; exact h)
  refine ⟨setC X1 id (.row q ⟨k, xs⟩) ⟨v, F', k⟩ nx, e1.trans (fun b hb _ => w1.rl b (e1.R b hb)) (set_same (by omega) hold1).ext, setRow_rel (d := ⟨k, xs⟩) w1 (by omega) hid hold1 hF' hown, by show hput _ _ X1.hp = _; rw [xh], rfl, xw, .row _ _ hid (by simp)⟩
/-- A new row. -/
theorem newrow (hw : WRel X G) {k : K} {xs : List k.den} {q : Bool} {us : List Value} {fs : Nat → Nat → Prop} (hc : CellsJ X G q (xs.map (elemCD X.ety k)).flatten us fs) {w' : World} {e : TypeId} {arr : Array Value} {fz : Nat × Nat} {cap : Nat}
    (hk : Keep (fun _ => False) X.w w') (hb : w'.heap[X.w.heap.size]? = some (.cells arr e fz)) (hfz : ∀ i : Nat, i < arr.size → ¬ (fz.1 ≤ i ∧ i < fz.2)) (hn : xs.length ≤ cap) (hm : cap ≤ maxLen) (hs : arr.size = cap * k.esz) (ht : arr.toList.take (xs.length * k.esz) = us) :
    ∃ X', Ext X X' ∧ WRel X' G ∧ X'.hp = hput X.nx (.row q ⟨k, xs⟩) X.hp ∧ X'.nx = X.nx + 1 ∧ X'.w = w' ∧ RelV X' (.row X.nx) (.slice (some ⟨X.w.heap.size, 0, none⟩) xs.length cap) := by
  have hlen : us.length = xs.length * k.esz := by
    rw [← hc.len, flatten_len (n := k.esz), List.length_map]
    intro row hr
    obtain ⟨x, _, rfl⟩ := List.mem_map.1 hr
    exact elemCD_len X.ety k x
  refine makerow hw hc .empty hk (fun _ _ _ _ h => h) ⟨hlen, .inr ⟨X.w.heap.size, cap, arr, fz, rfl, ⟨e, hb⟩, hfz, hn, hm, hs, ht⟩⟩ (fun b hb => ?_) (Nat.le_succ _) (Nat.lt_succ_self _) (fun h => absurd h (Nat.lt_irrefl _))
  simp [Value.ownBlock] at hb
  exact .inr (by omega)
theorem plain_cell {k : K} {x : k.den} {cd : CD} {u : Value} {w : World} {R : Nat → Prop} (hm : cd ∈ elemCD X.ety k x) (h : Rep w R cd u) : u.oneCell' = true := by
  rw [elemCD_cells] at hm
  obtain ⟨c, hc, rfl⟩ := List.mem_map.1 hm
  have := elemCells_plain k x c hc
  cases c <;> first | (cases this; done) | (cases h; rfl)
theorem flat_mem {k : K} {xs : List k.den} {j : Nat} {cd : CD} (h : (xs.map (elemCD X.ety k)).flatten[j]? = some cd) : ∃ x, cd ∈ elemCD X.ety k x := by
  have := List.mem_of_getElem? h
  obtain ⟨row, hr, hm⟩ := List.mem_flatten.1 this
  obtain ⟨x, _, rfl⟩ := List.mem_map.1 hr
  exact ⟨x, hm⟩
/-- A row is taken apart. -/
theorem openrow (hw : WRel X G) {id : Nat} {v : Value} {q : Bool} {d : Data} (h : RelV X (.row id) v) (hb : hgt X.hp id = .row q d) : ∃ us fs, WRel (killC X id) G ∧ ownR X.w (X.ety d.k) d.k.esz v d.l.length us ∧ CellsJ (killC X id) G q (d.l.map (elemCD X.ety d.k)).flatten us fs ∧
    (∀ j b, j < us.length → fs j b → v.ownBlock ≠ some b) ∧ Free (killC X id) G (fun b => v.ownBlock = some b) ∧ (∀ b, v.ownBlock = some b ∨ (∃ j, j < us.length ∧ fs j b) → (X.ob id).F b) ∧ (q = false → ∀ j b, j < us.length → ¬ fs j b) := by
  obtain ⟨hv, hk, ho⟩ := row_val hw h hb
  have hl : live X id := by unfold live; rw [hb]; simp
  have hfree := kill_free hw hl
  obtain ⟨us, fs, h1, h2, h3, h4, h5⟩ := OwnO.open (show OwnO X.w X.R q (.sl (X.ety d.k) d.k.esz (d.l.map (elemCD X.ety d.k))) v (X.ob id).F from ho)
  rw [List.length_map] at h1
  refine ⟨us, fs, kill_rel hw id, h1, ⟨h3.len, fun j cd u hj hu => ?_, h3.dis, fun j hj => hfree.sub fun b hb => (h5 b).2 (.inr ⟨j, hj, hb⟩)⟩, h4, hfree.sub fun b hb => (h5 b).2 (.inl hb), fun b hb => (h5 b).2 hb, fun hq j b hj => ?_⟩
  · have hc := h3.rel j cd u hj hu
    have hr : Rep X.w (fun b => X.R b ∨ fs j b) cd u := hc.rep (fun _ h => .inl h) (fun _ h => .inr h)
    obtain ⟨x, hx⟩ := flat_mem hj
    refine ⟨plain_cell hx hr, fun hq => ?_, hr⟩
    subst hq
    exact hc
  · subst hq
    exact (h3.rel j _ _ (List.getElem?_eq_getElem (by rw [h3.len]; exact hj)) (List.getElem?_eq_getElem hj)).2 b
end
end Go.Ab
/- The engine, part V: the operations that turn the heap. -/
namespace Go.Ab
open Go
section
variable {P : Program} {E : Env} {X Y Z : Ctx} {G : Beg} {o : Oper} {a : Act}
/-- There is a state that shows this. -/
def Shows (X : Ctx) (G : Beg) (w' : World) (v : AV) (u : Value) (hp : Hp) (nx : Nat) : Prop := ∃ X', Ext X X' ∧ WRel X' G ∧ X'.hp = hp ∧ X'.nx = nx ∧ X'.w = w' ∧ RelV X' v u
theorem opH_value {v : AV} {hp : Hp} {nx : Nat} {w' : World} {u : Value} (hr : (execOp a.eval o).run P X.w = .ok (.value u) w') (h : Shows X G w' v u hp nx) : OpH P X G o a v hp nx := by
  intro K Q hK
  obtain ⟨X', h1, h2, h3, h4, rfl, h6⟩ := h
  unfold Oper.wp
  rw [hr]
  exact hK X' u h1 h2 h3 h4 h6
theorem opH_skip {hp : Hp} {nx : Nat} {w' : World} (hr : (execOp a.eval o).run P X.w = .ok .skip w') (h : Shows X G w' .any undef hp nx) : OpH P X G o a .any hp nx := by
  intro K Q hK
  obtain ⟨X', h1, h2, h3, h4, rfl, h6⟩ := h
  unfold Oper.wp
  rw [hr]
  exact hK X' undef h1 h2 h3 h4 h6
theorem Shows.after {w' : World} {v : AV} {u : Value} {hp : Hp} {nx : Nat} (s : Same X Y) (hw : WRel Y G) (h : Shows Y G w' v u hp nx) : Shows X G w' v u hp nx := by
  obtain ⟨X', h1, h2⟩ := h
  exact ⟨X', s.ext.trans (fun b hb _ => hw.rl b (s.ext.R b hb)) h1, h2⟩
theorem newbox_shows (hw : WRel X G) {t t' : TypeId} {cs : List AV} {arr : Array Value} (hl : arr.size = cs.length) (hc : ∀ (j : Nat) (c : AV) (u : Value), cs[j]? = some c → arr[j]? = some u → RelV X c u) :
    Shows X G (X.w.alloc (.cells arr t')) (.ptr X.nx 0) (.pointer (some ⟨X.w.heap.size, 0, none⟩)) (hput X.nx (.box t cs) X.hp) (X.nx + 1) := by
  obtain ⟨X', h1, h2, h3, h4, h5, h6⟩ := newbox hw (t := t) (t' := t') hl hc
  exact ⟨X', h1, h2, h3, h4, h5, h6⟩
theorem run_newVar (t : TypeId) (v : Value) (w : World) : (newVar t v).run P w = .ok ⟨w.heap.size, 0, none⟩ (w.alloc (.cells v.cells t)) := by
  simp [newVar, newRow]
theorem run_zero {t : TypeId} {i : TypeInfo} {z : Value} (hi : P.info? t = some i) (hz : i.zero = some z) (w : World) : (zeroValue t).run P w = .ok z w := by
  simp [zeroValue, typeInfo, hi, hz]
theorem alloc_sound (hE : EnvOk P E) (hw : WRel X G) {dst ty pos after gd t} {e : Operand → AV} {p : Option Prop} {v : AV} {hp : Hp} {nx : Nat} (h : stepH E ⟨dst, .alloc t, ty, pos, after, gd⟩ e X.hp X.nx = some (p, v, hp, nx)) :
    OpH P X G ⟨dst, .alloc t, ty, pos, after, gd⟩ a v hp nx := by
  have main : ∀ (zv : Value) (cs : List AV), (∃ i, P.info? t = some i ∧ i.zero = some zv) → zv.cells.size = cs.length → (∀ (j : Nat) (c : AV) (u : Value), cs[j]? = some c → zv.cells[j]? = some u → RelV X c u) →
      some ((none : Option Prop), AV.ptr X.nx 0, hput X.nx (.box t cs) X.hp, X.nx + 1) = some (p, v, hp, nx) → OpH P X G ⟨dst, .alloc t, ty, pos, after, gd⟩ a v hp nx := by
    intro zv cs ⟨i, hi, hz⟩ hl hc he
    cases he
    refine opH_value (u := .pointer (some ⟨X.w.heap.size, 0, none⟩)) (w' := X.w.alloc (.cells zv.cells t)) ?_ (newbox_shows hw hl hc)
    simp only [execOp, Instr.alloc, Sem.run_bind, run_zero hi hz, Result.andThen_ok, run_newVar, Sem.run_pure]
  have ht := hE.td t
  simp only [stepH] at h
  split at h
  · rename_i z htd
    rw [htd] at ht
    obtain ⟨d, zv, hi, hu, ha, hcv, _⟩ := ht
    obtain ⟨i, hi, hz⟩ := info_of hi
    split at h
    · rename_i hc
      have hr := cv_rel (X := X) hcv
      have hone : zv.oneCell' = true := by
        cases z <;> simp only [cv, Option.some.injEq] at hcv <;> first | (cases hcv; done) | (subst hcv; first | rfl | exact hc)
      refine main zv [z.zr] ⟨i, hi, by simpa using (Prod.mk.inj hz).2⟩ (by rw [one_cells hone]; rfl) (fun j c u hj hu => ?_) h
      rw [one_cells hone] at hu
      cases j with
      | zero => simp at hj hu; subst hj; subst hu; exact hr
      | succ j => simp at hj
    · cases h
  · rename_i n fs z htd
    rw [htd] at ht
    obtain ⟨zs, hs, hz, hcv, hn⟩ := ht
    obtain ⟨i, hi, hz⟩ := info_of hz
    obtain ⟨hl, hr⟩ := cvs_rel (X := X) hcv
    exact main (.agg zs) (z.map AV.zr) ⟨i, hi, hz⟩ (by rw [List.length_map, hl]; simp [Value.cells]) (fun j c u hj hu => hr j c u hj (by simpa [Value.cells] using hu)) h
  · rename_i k htd
    rw [htd] at ht
    obtain ⟨e', hi, _⟩ := ht
    obtain ⟨i, hi, hz⟩ := info_of hi
    refine main (.slice none 0 0) [.nilS] ⟨i, hi, by simpa using (Prod.mk.inj hz).2⟩ rfl (fun j c u hj hu => ?_) h
    cases j with
    | zero => simp [Value.cells] at hj hu; subst hj; subst hu; exact .nilS
    | succ j => simp at hj
  · cases h
theorem box_sound (hw : WRel X G) {dst ty pos after gd t} {x : Operand} {e : Operand → AV} (hx : RelV X (e x) (a.eval x)) {p : Option Prop} {v : AV} {hp : Hp} {nx : Nat} (h : stepH E ⟨dst, .box t x, ty, pos, after, gd⟩ e X.hp X.nx = some (p, v, hp, nx)) :
    OpH P X G ⟨dst, .box t x, ty, pos, after, gd⟩ a v hp nx := by
  simp only [stepH] at h
  split at h
  · rename_i hc
    cases h
    obtain ⟨h1, h2⟩ := cells_rel hw hx hc
    refine opH_value (u := .pointer (some ⟨X.w.heap.size, 0, none⟩)) (w' := X.w.alloc (.cells (a.eval x).cells t)) ?_ (newbox_shows hw h1 h2)
    simp only [execOp, Instr.box, Sem.run_bind, run_newVar, Result.andThen_ok, Sem.run_pure]
  · cases h
theorem Shows.row {w' : World} {u : Value} {hp : Hp} {nx id : Nat} (h : ∃ X', Ext X X' ∧ WRel X' G ∧ X'.hp = hp ∧ X'.nx = nx ∧ X'.w = w' ∧ RelV X' (.row id) u) : Shows X G w' (.row id) u hp nx := h
theorem buildSlice_sound (hE : EnvOk P E) (hw : WRel X G) {dst ty pos after gd t len} {parts : Array (Nat × Operand)} {e : Operand → AV} (he : ∀ x, x ∈ (Op.buildSlice t len parts).operands.toList → RelV X (e x) (a.eval x)) {p : Option Prop} {v : AV} {hp : Hp} {nx : Nat}
    (h : stepH E ⟨dst, .buildSlice t len parts, ty, pos, after, gd⟩ e X.hp X.nx = some (p, v, hp, nx)) : OpH P X G ⟨dst, .buildSlice t len parts, ty, pos, after, gd⟩ a v hp nx := by
  simp only [stepH] at h
  split at h
  rotate_left
  · cases h
  rename_i k htd
  split at h
  rotate_left
  · cases h
  rename_i hlen
  cases hm : mkElems k len 0 (parts.toList.map fun p => (p.1, e p.2)) X.hp with
  | none => rw [hm] at h; cases h
  | some r =>
  obtain ⟨xs, q, hp'⟩ := r
  rw [hm] at h
  cases h
  have ht := hE.td t
  rw [htd] at ht
  obtain ⟨e', _, hu, hsz, _, zv, bb, hzb, _, _, hcv⟩ := ht
  obtain ⟨i, hi, hsz⟩ := info_of hsz
  obtain ⟨i', hi', hzb⟩ := info_of hzb
  rw [hi] at hi'
  cases hi'
  have hz : i.zero = some zv := by simpa using (Prod.mk.inj hzb).1
  have hop : ∀ x ∈ parts.toList, RelV X (e x.2) (a.eval x.2) := fun x hx => he x.2 (by simp only [Op.operands]; exact List.mem_map_of_mem hx)
  obtain ⟨m1, m2, m3, m4, fs, m5, m6, m7, m8, m9⟩ := mkElems_rel hw (vs := parts.toList.map fun p => a.eval p.2) (by simp) (fun j p u hj hu => by
    rw [List.getElem?_map] at hj hu
    cases hx : parts.toList[j]? with
    | none => rw [hx] at hj; cases hj
    | some y => rw [hx] at hj hu; cases hj; cases hu; exact hop y (List.mem_of_getElem? hx)) hm
  simp only [List.length_map] at m1 m2
  generalize hUs : ((parts.toList.map fun p => a.eval p.2).map (·.cells.toList)).flatten = us at m8 m9
  have husl : us.length = len * k.esz := by
    rw [← m8.len, flatten_len (n := k.esz), List.length_map, m2]
    · congr 1
      omega
    · intro row hr
      obtain ⟨x, _, rfl⟩ := List.mem_map.1 hr
      exact elemCD_len X.ety k x
  have hfill : ∀ z : Array Value, ∃ arr', Instr.fill (fun i => some (i * k.esz, k.esz)) ((Array.range (len * k.esz)).map (z[· % z.size]!)) (parts.toList.map fun p => (p.1, a.eval p.2)) = some arr' ∧ arr'.size = len * k.esz ∧ arr'.toList = us := by
    intro z
    obtain ⟨arr', f1, f2, f3⟩ := fill_row (n := k.esz) (parts.toList.map fun p => (p.1, a.eval p.2)) 0 ((Array.range (len * k.esz)).map (z[· % z.size]!)) (fun p hp => by
        obtain ⟨y, hy, rfl⟩ := List.mem_map.1 hp
        exact (m4 _ (List.mem_map_of_mem hy)).1) (fun j p hj => by
        rw [List.getElem?_map] at hj
        cases hx : parts.toList[j]? with
        | none => rw [hx] at hj; cases hj
        | some y =>
          rw [hx] at hj
          cases hj
          exact m3 j (y.1, e y.2) (by rw [List.getElem?_map, hx]; rfl)) (by simp only [List.length_map, Array.size_map, Array.size_range]; rw [m1]; exact Nat.le_refl _)
    simp only [Array.size_map, Array.size_range] at f2
    refine ⟨arr', f1, f2, ?_⟩
    apply List.ext_getElem?
    intro j
    have := f3 j
    rw [Array.getElem?_toList, this]
    simp only [List.length_map, Nat.zero_mul, Nat.sub_zero]
    rw [m1]
    have hUs' : ((parts.toList.map fun p => (p.1, a.eval p.2)).map (·.2.cells.toList)).flatten = us := by rw [← hUs]; simp [List.map_map, Function.comp_def]
    rw [hUs']
    by_cases hj : j < len * k.esz
    · rw [if_pos ⟨Nat.zero_le _, hj⟩]
    · rw [if_neg (fun h => hj h.2), List.getElem?_eq_none (by omega), Array.getElem?_eq_none (by simp; omega)]
  have hesz : k.esz ≤ 9 := by cases k <;> decide
  have hsmall : ¬ (16777216 < len * k.esz) := by
    have : len * k.esz ≤ 65536 * 9 := Nat.mul_le_mul hlen hesz
    omega
  have hrun : ∃ arr : Array Value, (Instr.buildSlice t len (parts.map fun p => (p.1, a.eval p.2))).run P X.w = .ok (.slice (some ⟨X.w.heap.size, 0, none⟩) len len) (X.w.alloc (.cells arr e')) ∧ arr.size = len * k.esz ∧ arr.toList = us := by
    by_cases h0 : len * k.esz = 0
    · obtain ⟨arr', f1, f2, f3⟩ := hfill #[]
      refine ⟨arr', ?_, f2, f3⟩
      simp only [Instr.buildSlice, Sem.run_bind, run_underlying hu, Result.andThen_ok, run_sizeOf' hi, hsz]
      simp only [show (2 ^ 24 : Nat) = 16777216 by rfl, gt_iff_lt]
      rw [if_neg hsmall, if_pos h0]
      simp only [Array.toList_map, Sem.run_bind, Sem.run_pure, Result.andThen_ok, f1, newRow]
      simp
    · obtain ⟨arr', f1, f2, f3⟩ := hfill zv.cells
      refine ⟨arr', ?_, f2, f3⟩
      simp only [Instr.buildSlice, Sem.run_bind, run_underlying hu, Result.andThen_ok, run_sizeOf' hi, hsz]
      simp only [show (2 ^ 24 : Nat) = 16777216 by rfl, gt_iff_lt]
      rw [if_neg hsmall, if_neg h0]
      simp only [Array.toList_map, Sem.run_bind, run_zero hi hz, Sem.run_pure, Result.andThen_ok, f1, newRow]
      simp
  obtain ⟨arr, r1, r2, r3⟩ := hrun
  refine opH_value (u := .slice (some ⟨X.w.heap.size, 0, none⟩) len len) (w' := X.w.alloc (.cells arr e')) ?_ (Shows.after m6 m5 (Shows.row ?_))
  · simp only [execOp]
    rw [show (parts.map fun x => match x with | (i, x) => (i, a.eval x)) = (parts.map fun p => (p.1, a.eval p.2)) from rfl]
    simp only [Sem.run_bind, r1, Result.andThen_ok, Sem.run_pure]
  · have hx : xs.length = len := by omega
    have := newrow (X := { X with hp := hp' }) m5 m8 (keep_alloc X.w (.cells arr e')) (alloc_new X.w (.cells arr e')) (cap := len) (fun i _ h => by have := h.2; simp at this) (by omega) (by simp [maxLen]; omega) r2 (by rw [hx, ← r3, List.take_of_length_le]; rw [Array.length_toList]; omega)
    rw [hx] at this
    exact this
end
end Go.Ab
/- The engine, part W: stores, cuts, new rows of a length, bytes of a string. -/
namespace Go.Ab
open Go
section
variable {P : Program} {E : Env} {X Y Z : Ctx} {G : Beg} {o : Oper} {a : Act}
theorem szT_ok (hE : EnvOk P E) {t : TypeId} {n : Nat} (h : szT (E.td t) n = true) : ∃ i, P.info? t = some i ∧ i.size = n := by
  have ht := hE.td t
  cases htd : E.td t with
  | unk => rw [htd] at h; cases h
  | one z =>
    rw [htd] at h ht
    obtain ⟨d, zv, hi, _⟩ := ht
    obtain ⟨i, hi, hz⟩ := info_of hi
    exact ⟨i, hi, by rw [(Prod.mk.inj hz).1]; exact (of_decide_eq_true h).symm⟩
  | st m fs z =>
    rw [htd] at h ht
    obtain ⟨zs, hs, _⟩ := ht
    obtain ⟨i, flds, hi, hn, _⟩ := stShape_inv hs
    exact ⟨i, hi, by rw [hn]; exact (of_decide_eq_true h).symm⟩
  | sl k =>
    rw [htd] at h ht
    obtain ⟨e', hi, _⟩ := ht
    obtain ⟨i, hi, hz⟩ := info_of hi
    exact ⟨i, hi, by rw [(Prod.mk.inj hz).1]; exact (of_decide_eq_true h).symm⟩
theorem areC_one (hw : WRel X G) : ∀ {cs : List AV} {us : List Value}, cs.length = us.length → (∀ (j : Nat) (c : AV) (u : Value), cs[j]? = some c → us[j]? = some u → RelV X c u) → areC X.hp cs = true → ∀ u ∈ us, u.oneCell' = true
  | [], [], _, _, _, u, hu => by cases hu
  | c :: cs, u :: us, hl, hr, hc, u', hu => by
    obtain ⟨h1, h2⟩ := (Bool.and_eq_true _ _ ▸ hc : _ ∧ _)
    cases hu with
    | head => exact isC_one hw (hr 0 c u rfl rfl) h1
    | tail _ hu => exact areC_one hw (by simpa using hl) (fun j c u hj hu => hr (j + 1) c u (by simpa using hj) (by simpa using hu)) h2 u' hu
theorem run_storeAt {t : TypeId} {i : TypeInfo} {g off : Nat} {v : Value} {w w' : World} (hi : P.info? t = some i) (hs : i.size = v.cells.size) (h : (storeCells ⟨g, off, none⟩ v.cells.toList 0).run P w = .ok () w') :
    (Instr.storeAt t (.pointer (some ⟨g, off, none⟩)) v).run P w = .ok () w' := by
  simp only [Instr.storeAt, Instr.sureAddr, storeVar, Sem.run_bind, Sem.run_pure, Result.andThen_ok, run_sizeOf' hi]
  rw [if_neg (by simp [hs])]
  exact h
theorem world_shows (hw : WRel X G) {F : Nat → Prop} {w' : World} (hF : Free X G F) (hk : Keep F X.w w') : Ext X { X with w := w' } ∧ WRel { X with w := w' } G ∧ ∀ F', Free X G F' → Free { X with w := w' } G F' := by
  refine ⟨world_ext (R' := X.R) hF hk (fun _ h => h), world_rel hw (R' := X.R) hF hk (fun _ h => h) (fun _ h => .inl h) (fun b hb => Nat.lt_of_lt_of_le (hw.rl b hb) hk.size), fun F' h => ⟨h.nr, h.nl, fun b hb => Nat.lt_of_lt_of_le (h.lt b hb) hk.size, h.ok⟩⟩
theorem storeBox_sound (hE : EnvOk P E) (hw : WRel X G) {dst ty pos after gd t} {x y : Operand} {e : Operand → AV} (hx : RelV X (e x) (a.eval x)) (hy : RelV X (e y) (a.eval y)) {id off : Nat} (hex : e x = .ptr id off) {tb : TypeId} {cs : List AV} (hb : hgt X.hp id = .box tb cs)
    (hsz : szT (E.td t) (cellsOf (e y)).length = true) (hc1 : (isAggV (e y) || isC X.hp (e y)) = true) (hc2 : areC X.hp (cellsOf (e y)) = true) (hfit : off + (cellsOf (e y)).length ≤ cs.length) :
    OpH P X G ⟨dst, .store t x y, ty, pos, after, gd⟩ a .any (hput id (.box tb (setAt cs off (cellsOf (e y)))) (hput id .dead X.hp)) X.nx := by
  rw [hex] at hx
  obtain ⟨g, arr, t', hv, hob, hg, hs, hFb, hcs⟩ := box_cells hw hx hb
  have hid : id < X.nx := by cases hx; assumption
  obtain ⟨h1, h2⟩ := cells_rel hw hy hc1
  have hone := areC_one hw (us := (a.eval y).cells.toList) (by simpa using h1.symm) (fun j c u hj hu => h2 j c u hj (by simpa using hu)) hc2
  obtain ⟨i, hi, hisz⟩ := szT_ok hE hsz
  have hlen : (a.eval y).cells.toList.length = (cellsOf (e y)).length := by rw [Array.length_toList, h1]
  obtain ⟨w', cur', r1, r2, r3, r4, r5⟩ := st_cells (P := P) (o := off) (a.eval y).cells.toList 0 arr X.w hg (fun k hk h => by have := h.2; simp at this) (by omega) hone
  have hl := box_live hb
  have hfree : Free (killC X id) G (fun n => n = g) := (kill_free hw hl).sub fun n hn => (hFb n).2 hn
  obtain ⟨e1, w1, f1⟩ := world_shows (kill_rel hw id) hfree r5
  refine opH_skip (w' := w') ?_ ?_
  · rw [Nat.zero_add] at hv
    simp only [execOp, hv, Sem.run_bind, run_storeAt hi (by rw [hisz, h1]) r1, Result.andThen_ok, Sem.run_pure]
  · generalize hX1 : ({ killC X id with w := w' } : Ctx) = X1 at *
    have xw : X1.w = w' := by rw [← hX1]
    have xh : X1.hp = hput id .dead X.hp := by rw [← hX1]
    have xn : X1.nx = X.nx := by rw [← hX1]
    have xo : X1.ob id = X.ob id := by rw [← hX1]
    have eX : Ext X X1 := Ext.trans (X := X) (Y := killC X id) (Z := X1) (fun _ _ h => h) (kill_same id).ext e1
    have hold : id < X1.nx → (.pointer (some ⟨g, 0, none⟩) : Value) = (X1.ob id).v ∧ (X.ob id).k = (X1.ob id).k := fun _ => by rw [xo, hob]; exact ⟨rfl, rfl⟩
    refine ⟨setC X1 id (.box tb (setAt cs off (cellsOf (e y)))) ⟨.pointer (some ⟨g, 0, none⟩), fun n => n = g, (X.ob id).k⟩ X.nx, eX.trans (fun b hb _ => w1.rl b (eX.R b hb)) (set_same (by omega) hold).ext, ?_, by show hput _ _ X1.hp = _; rw [xh], rfl, xw, .any _⟩
    refine setBox_rel (t' := t') (arr := cur') w1 (by omega) hid hold (f1 _ hfree) (by rw [xw]; exact r2) (by rw [r3, setAt_len hfit, hs]) (fun j c u hj hu => ?_)
    rw [setAt_get hfit] at hj
    rw [r4 j, Nat.add_zero, hlen] at hu
    split at hj
    · rename_i hjj
      rw [if_pos hjj] at hu
      exact (h2 _ c u hj (by simpa using hu)).ext eX
    · rename_i hjj
      rw [if_neg hjj] at hu
      obtain ⟨u', h3, _, h4⟩ := hcs j c hj
      rw [hu] at h3
      cases h3
      exact h4.ext eX
theorem bytesRow_toList (s : ByteArray) (cap : Nat) : (bytesRow s cap).toList = byteCells s ++ List.replicate (cap - s.size) (.int .u8 0) := by simp [bytesRow, byteCells]
theorem bytes_cells {q : Bool} {l : Str} : CellsJ X G q ((l.map (elemCD X.ety .u8)).flatten) (byteCells ⟨l.toArray⟩) (fun _ _ => False) := by
  have e : (l.map (elemCD X.ety .u8)).flatten = l.map fun b => CD.sc (.int .u8 (b.toNat : Nat)) := by
    induction l with
    | nil => rfl
    | cons b r ih =>
      show elemCD X.ety .u8 b ++ (r.map (elemCD X.ety .u8)).flatten = _
      rw [ih]
      rfl
  refine ⟨by rw [e]; simp [byteCells], fun j cd u hj hu => ?_, fun _ _ _ _ _ h => h.elim, fun _ _ => .empty⟩
  rw [e, List.getElem?_map] at hj
  simp only [byteCells, List.getElem?_map] at hu
  cases hl : l[j]? with
  | none => rw [hl] at hj; cases hj
  | some b =>
    rw [hl] at hj hu
    cases hj
    cases hu
    exact ⟨rfl, fun _ => .sc _ _ (fun _ h => h), .sc _⟩
theorem convert_sound (hE : EnvOk P E) (hw : WRel X G) {dst ty pos after gd src d} {x : Operand} {e : Operand → AV} (hx : RelV X (e x) (a.eval x)) {p : Option Prop} {v : AV} {hp : Hp} {nx : Nat}
    (h : stepH E ⟨dst, .convert src d x, ty, pos, after, gd⟩ e X.hp X.nx = some (p, v, hp, nx)) (hq : ∀ q, p = some q → q) : OpH P X G ⟨dst, .convert src d x, ty, pos, after, gd⟩ a v hp nx := by
  simp only [stepH] at h
  split at h
  · rename_i z l hs hd hex
    cases h
    have hsz := hq _ rfl
    rw [hex] at hx
    have hxv := hx.str_inv
    obtain ⟨ds, hus, hcs⟩ := one_inv hE hs
    cases hcs
    obtain ⟨e', i, hud, hi, hsi, hb⟩ := sl_inv hE hd
    have hsl : (⟨l.toArray⟩ : ByteArray).size = l.length := str_size l
    have hr := run_bytes_of_string (P := P) X.w src d e' ⟨l.toArray⟩ hus hud (hb rfl)
    rw [hsl] at hr
    have hge := grownCap_ge X.w l.length 0 e'
    have hle := grownCap_le_maxLen X.w l.length 0 e' (by simp only [sizeOk, maxLen] at *; omega)
    have hsize : (bytesRow ⟨l.toArray⟩ (grownCap X.w l.length 0 e')).size = grownCap X.w l.length 0 e' := by
      rw [← Array.length_toList, bytesRow_toList, List.length_append, byteCells_length, List.length_replicate, hsl]
      omega
    refine opH_value (u := .slice (some ⟨X.w.heap.size, 0, none⟩) l.length (grownCap X.w l.length 0 e')) ?_ (Shows.row (newrow hw (k := .u8) (xs := l) (q := true) (e := e') (fz := ((bytesRow ⟨l.toArray⟩ (grownCap X.w l.length 0 e')).size, (bytesRow ⟨l.toArray⟩ (grownCap X.w l.length 0 e')).size + 1)) bytes_cells (keep_alloc_drew X.w _) (alloc_new_drew X.w _) (fun i hi h => Nat.not_le_of_lt hi h.1) hge hle (by rw [hsize]; show _ = _ * 1; omega) ?_))
    · simp only [execOp, hxv, Sem.run_bind, hr, Result.andThen_ok, Sem.run_pure]
    · rw [bytesRow_toList]
      show List.take (l.length * 1) _ = _
      rw [List.take_append_of_le_length (by rw [byteCells_length, hsl]; omega), List.take_of_length_le (by rw [byteCells_length, hsl]; omega)]
  · cases h
/-- The cells of a zero. -/
theorem zero_cells {k : K} {zs : List Value} (h : cvs (elemCells k k.dflt |>.map fun | .dat _ => .nilS | .u8 _ => .int .u8 0 | v => v) = some zs) :
    zs.length = k.esz ∧ ∀ (j : Nat) (cd : CD) (u : Value), (elemCD X.ety k k.dflt)[j]? = some cd → zs[j]? = some u → CellJ X true cd u (fun _ => False) := by
  have nilO : ∀ k : K, Own X.w (dataCD X.ety ⟨k, []⟩) (.slice none 0 0) (fun _ => False) := fun k => by
    show Own X.w (.sl (X.ety k) k.esz []) _ _
    exact .sl _ _ [] _ [] (fun _ _ => False) _ ⟨by simp, .inl ⟨rfl, rfl⟩⟩ (fun r h => by cases h) (fun k cd u h => by simp at h) (fun k b h => absurd h (Nat.not_lt_zero _)) (fun k k' b h => absurd h (Nat.not_lt_zero _)) (fun b => by simp [Value.ownBlock])
  have hn : ∀ k : K, CellJ X true (dataCD X.ety ⟨k, []⟩) (.slice none 0 0) (fun _ => False) := fun k => ⟨rfl, fun _ => nilO k, (nilO k).rep fun _ h => h.elim⟩
  have hsc : ∀ v : Value, v.oneCell' = true → CellJ X true (.sc v) v (fun _ => False) := fun v hv => ⟨hv, fun _ => .sc _ _ (fun _ h => h), .sc _⟩
  have hnn : CellJ X true (.sl (X.ety .node) 6 (nodesCD X.ety [])) (.slice none 0 0) (fun _ => False) := hn .node
  have nil : ([] : List CD).length = 0 ∧ ∀ (j : Nat) (cd : CD) (u : Value), ([] : List CD)[j]? = some cd → ([] : List Value)[j]? = some u → CellJ X true cd u (fun _ => False) := ⟨rfl, fun j cd u h => by simp at h⟩
  have cons : ∀ {ds : List CD} {us : List Value} {n : Nat}, (ds.length = n ∧ ∀ (j : Nat) (cd : CD) (u : Value), ds[j]? = some cd → us[j]? = some u → CellJ X true cd u (fun _ => False)) → ∀ {d : CD} {v : Value}, CellJ X true d v (fun _ => False) →
      ((d :: ds).length = n + 1 ∧ ∀ (j : Nat) (cd : CD) (u : Value), (d :: ds)[j]? = some cd → (v :: us)[j]? = some u → CellJ X true cd u (fun _ => False)) := by
    intro ds us n h d v hd
    refine ⟨by simp [h.1], fun j cd u h1 h2 => ?_⟩
    cases j with
    | zero => simp at h1 h2; subst h1; subst h2; exact hd
    | succ j => exact h.2 j cd u (by simpa using h1) (by simpa using h2)
  cases k with
  | u8 => cases h; exact ⟨rfl, (cons nil (hsc _ rfl)).2⟩
  | str => cases h; exact ⟨rfl, (cons nil (hsc _ rfl)).2⟩
  | int => cases h; exact ⟨rfl, (cons nil (hsc _ rfl)).2⟩
  | bool => cases h; exact ⟨rfl, (cons nil (hsc _ rfl)).2⟩
  | attr => cases h; exact ⟨rfl, (cons (cons nil (hsc _ rfl)) (hsc _ rfl)).2⟩
  | node => cases h; exact ⟨rfl, fun j cd u h => (cons (cons (cons (cons (cons (cons nil (hn .node)) (hn .attr)) (hsc _ rfl)) (hsc _ rfl)) (hsc _ rfl)) (hsc _ rfl)).2 j cd u (by rw [show elemCD X.ety .node K.node.dflt = nodeCD X.ety (Node.mk 0 0 [] [] [] []) from rfl, nodeCD_eq] at h; exact h)⟩
  | rule => cases h; exact ⟨rfl, (cons (cons (cons nil (hn .str)) (hsc _ rfl)) (hsc _ rfl)).2⟩
  | cfg => cases h; exact ⟨rfl, (cons (cons (cons (cons (cons (cons (cons (cons (cons nil (hsc _ rfl)) (hsc _ rfl)) (hn .str)) (hn .str)) (hn .rule)) (hn .rule)) (hn .rule)) (hsc _ rfl)) (hsc _ rfl)).2⟩
  | doc => cases h; exact ⟨rfl, (cons (cons nil hnn) (hsc _ rfl)).2⟩
  | call => cases h; exact ⟨rfl, (cons (cons (cons (cons (cons (cons nil (hsc _ rfl)) (hsc _ rfl)) (hn .int)) (hsc _ rfl)) (hsc _ rfl)) (hsc _ rfl)).2⟩
  | answ => cases h; exact ⟨rfl, (cons (cons nil (hsc _ rfl)) (hsc _ rfl)).2⟩
  | tokn => cases h; exact ⟨rfl, (cons (cons (cons (cons (cons (cons (cons nil (hsc _ rfl)) (hn .attr)) (hsc _ rfl)) (hsc _ rfl)) (hsc _ rfl)) (hsc _ rfl)) (hsc _ rfl)).2⟩
  | opn => cases h; exact ⟨rfl, (cons (cons nil (hsc _ rfl)) (hsc _ rfl)).2⟩
  | nodes => cases h; exact ⟨rfl, (cons nil hnn).2⟩
end
end Go.Ab
/- The engine, part X: stores into rows, cuts of rows, appends; the theorem of all operations. -/
namespace Go.Ab
open Go
section
variable {P : Program} {E : Env} {X Y Z : Ctx} {G : Beg} {o : Oper} {a : Act}
theorem makeSlice_sound (hE : EnvOk P E) (hw : WRel X G) {dst ty pos after gd t} {x y : Operand} {e : Operand → AV} (hx : RelV X (e x) (a.eval x)) (hy : RelV X (e y) (a.eval y)) {p : Option Prop} {v : AV} {hp : Hp} {nx : Nat}
    (h : stepH E ⟨dst, .makeSlice t x y, ty, pos, after, gd⟩ e X.hp X.nx = some (p, v, hp, nx)) (hq : ∀ q, p = some q → q) : OpH P X G ⟨dst, .makeSlice t x y, ty, pos, after, gd⟩ a v hp nx := by
  simp only [stepH] at h
  split at h
  rotate_left
  · cases h
  rename_i k n m htd hex hey
  cases h
  obtain ⟨h0, h1, h2⟩ := hq _ rfl
  have ht := hE.td t
  rw [htd] at ht
  obtain ⟨e', _, hu, hsz, _, zv, bb, hzb, hb0, hb1, hcv⟩ := ht
  obtain ⟨i, hi, hsz⟩ := info_of hsz
  obtain ⟨i', hi', hzb⟩ := info_of hzb
  rw [hi] at hi'
  cases hi'
  have hz : i.zero = some zv := by simpa using (Prod.mk.inj hzb).1
  have hby : i.bytes = bb := by simpa using (Prod.mk.inj hzb).2
  rw [hex] at hx
  rw [hey] at hy
  obtain ⟨z1, z2⟩ := zero_cells (X := X) hcv
  have hesz0 : 0 < k.esz := by cases k <;> decide
  have hm : m.toNat ≤ 1073741824 := h2
  have hbytes : (i.bytes : Int) * m ≤ 281474976710656 := by
    have : bb * m.toNat ≤ 256 * 1073741824 := Nat.mul_le_mul hb1 hm
    have h3 : (bb : Int) * m = ((bb * m.toNat : Nat) : Int) := by rw [Int.natCast_mul]; congr 1; omega
    rw [hby, h3]
    omega
  have hr := run_make (P := P) X.w t e' i zv hu hi hz .i64 .i64 n m h0 h1 hbytes (by omega)
  rw [hsz] at hr
  have hzs : zv.cells.size = k.esz := by rw [← z1, Array.length_toList]
  let us : List Value := (List.replicate n.toNat zv.cells.toList).flatten
  have hus : us.length = n.toNat * k.esz := by
    show (List.replicate n.toNat zv.cells.toList).flatten.length = _
    rw [flatten_len (n := k.esz) (fun row hr => by rw [List.eq_of_mem_replicate hr]; exact z1), List.length_replicate]
  have hget : ∀ (α : Type) (l : List α) (c j : Nat), l.length = k.esz → j < c * k.esz → (List.replicate c l).flatten[j]? = l[j % k.esz]? := by
    intro α l c j hl hj
    have hd : j / k.esz < c := Nat.div_lt_of_lt_mul (by rw [Nat.mul_comm]; exact hj)
    have hmod : j % k.esz < k.esz := Nat.mod_lt _ hesz0
    have := flatten_get (l := List.replicate c l) (n := k.esz) (fun row hr => by rw [List.eq_of_mem_replicate hr]; exact hl) (i := j / k.esz) (j := j % k.esz) (row := l) (x := l[j % k.esz]'(by omega)) (by rw [List.getElem?_replicate, if_pos hd]) (List.getElem?_eq_getElem _)
    rw [show j / k.esz * k.esz + j % k.esz = j by rw [Nat.mul_comm]; exact Nat.div_add_mod j k.esz] at this
    rw [this, List.getElem?_eq_getElem]
  have hcells : CellsJ X G true ((List.replicate n.toNat k.dflt).map (elemCD X.ety k)).flatten us (fun _ _ => False) := by
    rw [List.map_replicate]
    have hl := elemCD_len X.ety k k.dflt
    have hlen : (List.replicate n.toNat (elemCD X.ety k k.dflt)).flatten.length = n.toNat * k.esz := by
      rw [flatten_len (n := k.esz) (fun row hr => by rw [List.eq_of_mem_replicate hr]; exact hl), List.length_replicate]
    refine ⟨by rw [hlen, hus], fun j cd u hj hu => ?_, fun _ _ _ _ _ h => h.elim, fun _ _ => .empty⟩
    have hlt : j < n.toNat * k.esz := by rw [← hlen]; exact (List.getElem?_eq_some_iff.1 hj).1
    rw [hget _ _ _ _ hl hlt] at hj
    rw [hget _ _ _ _ z1 hlt] at hu
    exact z2 _ cd u hj hu
  have hmk : (madeCells zv.cells (m.toNat * k.esz)).size = m.toNat * k.esz := size_madeCells _ _
  refine opH_value (u := .slice (some ⟨X.w.heap.size, 0, none⟩) n.toNat m.toNat) (w' := X.w.alloc (.cells (madeCells zv.cells (m.toNat * k.esz)) e')) ?_ (Shows.row ?_)
  · simp only [execOp, hx.int_inv, hy.int_inv, Sem.run_bind, hr, Result.andThen_ok, Sem.run_pure]
  · have := newrow hw (k := k) (xs := List.replicate n.toNat k.dflt) hcells (keep_alloc X.w _) (alloc_new X.w (.cells (madeCells zv.cells (m.toNat * k.esz)) e')) (cap := m.toNat) (fun i _ h => by have h2 := h.2; exact absurd h2 (Nat.not_lt_zero _)) (by rw [List.length_replicate]; omega) (by simp only [maxLen]; omega) hmk (by
      rw [List.length_replicate]
      apply List.ext_getElem?
      intro j
      rw [List.getElem?_take]
      by_cases hj : j < n.toNat * k.esz
      · rw [if_pos hj, hget _ _ _ _ z1 hj]
        have hjm : j < m.toNat * k.esz := Nat.lt_of_lt_of_le hj (Nat.mul_le_mul_right _ (by omega))
        have hmod : j % k.esz < zv.cells.size := by rw [hzs]; exact Nat.mod_lt _ hesz0
        simp [madeCells, hjm, hzs]
        rw [getElem!_pos zv.cells (j % k.esz) hmod, Array.getElem?_eq_getElem hmod]
      · rw [if_neg hj, List.getElem?_eq_none (by rw [hus]; omega)])
    rw [List.length_replicate] at this
    exact this
theorem cutRow_sound (hE : EnvOk P E) (hw : WRel X G) {dst ty pos after gd t} {x y : Operand} {e : Operand → AV} (hx : RelV X (e x) (a.eval x)) (hy : RelV X (e y) (a.eval y)) {p : Option Prop} {v : AV} {hp : Hp} {nx : Nat}
    (h : stepH E ⟨dst, .slice t x none (some y) none, ty, pos, after, gd⟩ e X.hp X.nx = some (p, v, hp, nx)) (hq : ∀ q, p = some q → q) : OpH P X G ⟨dst, .slice t x none (some y) none, ty, pos, after, gd⟩ a v hp nx := by
  simp only [stepH] at h
  split at h
  rotate_left
  · cases h
  rename_i k id n htd hex hey
  split at h
  rotate_left
  · cases h
  rename_i q d hb
  split at h
  rotate_left
  · cases h
  rename_i hkd
  cases h
  obtain ⟨h0, h1⟩ := hq _ rfl
  rw [hex] at hx
  rw [hey] at hy
  obtain ⟨e', i, hu, hi, hsz, _⟩ := sl_inv hE htd
  obtain ⟨us, fs, w1, ho, hc, hne, hfr, _, _⟩ := openrow hw hx hb
  obtain ⟨A, cap, hv, hcap, hA⟩ := own_shape ho
  have hr := run_slice_sl (P := P) (X := X) (w := X.w) (A := A) (len := d.l.length) (cap := cap) hu hi (lo := none) (hiV := some (.int .i64 n)) (vlo := none) (vhi := some (.int .i64 n)) (x := 0) (y := n) rfl (fun c hc => by cases hc) (fun _ => rfl) (fun c hc => by cases hc; exact ⟨_, rfl, .int _ _⟩) (fun h => by cases h) (Int.le_refl _) h0 h1 hcap
  simp only [Int.toNat_zero, Nat.sub_zero, Nat.zero_mul] at hr
  have hA' : (if cap = 0 then A else A.map (·.add 0)) = A := by
    split
    · rfl
    · cases A with
      | none => rfl
      | some ad =>
        have : ad.spot = none := by
          rcases ho.2 with ⟨hn, _⟩ | ⟨g, c2, cur, fz, hn, _⟩
          · rw [hv] at hn; injection hn with e1; cases e1
          · rw [hv] at hn; injection hn with e1; cases e1; rfl
        obtain ⟨b, of, sp⟩ := ad
        cases this
        simp [Addr.add]
  rw [hA'] at hr
  have hm : n.toNat ≤ d.l.length := by omega
  have hfl : ((d.l.take n.toNat).map (elemCD X.ety d.k)).flatten = ((d.l.map (elemCD X.ety d.k)).flatten).take (n.toNat * d.k.esz) := by
    rw [List.map_take]
    have hn : ∀ row ∈ d.l.map (elemCD X.ety d.k), row.length = d.k.esz := by
      intro row hr
      obtain ⟨x, _, rfl⟩ := List.mem_map.1 hr
      exact elemCD_len X.ety d.k x
    have hlen : (d.l.map (elemCD X.ety d.k)).length = d.l.length := List.length_map ..
    generalize d.l.map (elemCD X.ety d.k) = L at hn hlen
    have : ∀ (L : List (List CD)) (c : Nat), (∀ row ∈ L, row.length = d.k.esz) → (L.take c).flatten = L.flatten.take (c * d.k.esz) := by
      intro L
      induction L with
      | nil => intro c _; simp
      | cons r L ih =>
        intro c hn
        cases c with
        | zero => simp
        | succ c =>
          have h1 := hn r List.mem_cons_self
          simp only [List.take_succ_cons, List.flatten_cons]
          have h2 : (c + 1) * d.k.esz = d.k.esz + c * d.k.esz := by rw [Nat.add_mul, Nat.one_mul, Nat.add_comm]
          rw [ih c fun row hr => hn row (List.mem_cons_of_mem _ hr), List.take_append, h1, h2, List.take_of_length_le (l := r) (by omega), Nat.add_sub_cancel_left]
    exact this L n.toNat hn
  have husl : us.length = d.l.length * d.k.esz := ho.1
  have hle : n.toNat * d.k.esz ≤ us.length := by rw [husl]; exact Nat.mul_le_mul_right _ hm
  have hc' : CellsJ (killC X id) G q ((d.l.take n.toNat).map (elemCD X.ety d.k)).flatten (us.take (n.toNat * d.k.esz)) fs := by
    rw [hfl]
    have hlt : (us.take (n.toNat * d.k.esz)).length = n.toNat * d.k.esz := by rw [List.length_take]; omega
    refine ⟨by rw [List.length_take, List.length_take, hc.len], fun j cd u hj hu => ?_, fun j k b hj hk => hc.dis j k b (by omega) (by omega), fun j hj => hc.free j (by omega)⟩
    rw [List.getElem?_take] at hj hu
    split at hj
    · rename_i hjj
      rw [if_pos hjj] at hu
      exact hc.rel j cd u hj hu
    · cases hj
  have ho' : ownR X.w (X.ety d.k) d.k.esz (.slice A n.toNat cap) (d.l.take n.toNat).length (us.take (n.toNat * d.k.esz)) := by
    rw [List.length_take, Nat.min_eq_left hm]
    refine ⟨by rw [List.length_take]; omega, ?_⟩
    rcases ho.2 with ⟨hn, hz⟩ | ⟨g, c2, cur, fz, hn, hg, hfz, h3, h4, h5, h6⟩
    · rw [hv] at hn
      injection hn with e1 e2 e3
      have : n.toNat = 0 := by omega
      rw [this, e1, e3]
      exact .inl ⟨rfl, rfl⟩
    · rw [hv] at hn
      injection hn with e1 e2 e3
      subst e1
      subst e3
      refine .inr ⟨g, cap, cur, fz, rfl, hg, hfz, by omega, h4, h5, ?_⟩
      rw [← h6, List.take_take, Nat.min_eq_left (Nat.mul_le_mul_right _ hm)]
  refine opH_value (u := .slice A n.toNat cap) (w' := X.w) ?_ (Shows.after (kill_same id) w1 (Shows.row ?_))
  · simp only [execOp, hv, hy.int_inv, Option.map_none, Option.map_some, Sem.run_bind, hr, Result.andThen_ok, Sem.run_pure]
  · have hbk : ∀ b, (Value.slice A n.toNat cap).ownBlock = some b → (a.eval x).ownBlock = some b := by
      intro b hb'
      rw [hv]
      cases A <;> (simp [Value.ownBlock] at hb' ⊢; try exact hb')
    refine makerow (k := d.k) (xs := d.l.take n.toNat) (X := killC X id) w1 hc' (B := fun b => (a.eval x).ownBlock = some b) hfr (Keep.refl _ _) (fun j b hj hb hh => hne j b (by rw [List.length_take] at hj; omega) hb hh) ho' (fun b hb => .inl (hbk b hb)) (Nat.le_succ _) (Nat.lt_succ_self _) (fun h => absurd h (Nat.lt_irrefl _))
end
end Go.Ab
/- The engine, part Y: stores into rows. -/
namespace Go.Ab
open Go
section
variable {P : Program} {E : Env} {X Y Z : Ctx} {G : Beg} {o : Oper} {a : Act}
def setL {α : Type} (cs : List α) (off : Nat) (vs : List α) : List α := cs.take off ++ vs ++ cs.drop (off + vs.length)
theorem setL_get {α : Type} {cs vs : List α} {off k : Nat} (h : off + vs.length ≤ cs.length) : (setL cs off vs)[k]? = if off ≤ k ∧ k < off + vs.length then vs[k - off]? else cs[k]? := by
  unfold setL
  have h1 : (cs.take off).length = off := by rw [List.length_take]; omega
  by_cases hk : k < off
  · rw [if_neg (by omega), List.append_assoc, List.getElem?_append_left (by omega), List.getElem?_take, if_pos hk]
  · rw [List.append_assoc, List.getElem?_append_right (by omega), h1]
    by_cases hk2 : k < off + vs.length
    · rw [if_pos ⟨by omega, hk2⟩, List.getElem?_append_left (by omega)]
    · rw [if_neg (by omega), List.getElem?_append_right (by omega), List.getElem?_drop]
      congr 1
      omega
theorem setL_len {α : Type} {cs vs : List α} {off : Nat} (h : off + vs.length ≤ cs.length) : (setL cs off vs).length = cs.length := by
  simp only [setL, List.length_append, List.length_take, List.length_drop]
  omega
/-- The cells of a row of elements, place by place. -/
theorem flat_at {k : K} {xs : List k.den} {j : Nat} (hj : j < xs.length * k.esz) : ∃ x, xs[j / k.esz]? = some x ∧ (xs.map (elemCD X.ety k)).flatten[j]? = (elemCD X.ety k x)[j % k.esz]? ∧ j % k.esz < k.esz := by
  have hesz0 : 0 < k.esz := by cases k <;> decide
  have hd : j / k.esz < xs.length := Nat.div_lt_of_lt_mul (by rw [Nat.mul_comm]; exact hj)
  have hmod : j % k.esz < k.esz := Nat.mod_lt _ hesz0
  refine ⟨xs[j / k.esz], List.getElem?_eq_getElem hd, ?_, hmod⟩
  have hl := elemCD_len X.ety k xs[j / k.esz]
  have := flatten_get (l := xs.map (elemCD X.ety k)) (n := k.esz) (fun row hr => by obtain ⟨x, _, rfl⟩ := List.mem_map.1 hr; exact elemCD_len X.ety k x) (i := j / k.esz) (j := j % k.esz) (row := elemCD X.ety k xs[j / k.esz])
    (x := (elemCD X.ety k xs[j / k.esz])[j % k.esz]'(by omega)) (by rw [List.getElem?_map, List.getElem?_eq_getElem hd]; rfl) (List.getElem?_eq_getElem _)
  rw [show j / k.esz * k.esz + j % k.esz = j by rw [Nat.mul_comm]; exact Nat.div_add_mod j k.esz] at this
  rw [this, List.getElem?_eq_getElem]
/-- A cell of an owned row, as a value that can be laid in again. -/
theorem keep_cell {q : Bool} {c : AV} {u : Value} {F : Nat → Prop} (hp : plainC c = true) (h : CellJ X q (cellCD X.ety c) u F) (hF : q = false → ∀ b, ¬ F b) : RelA X (ownCell q c) u F := by
  obtain ⟨_, h1, h2⟩ := h
  have hsc : ∀ {v : Value}, cellCD X.ety c = .sc v → ∀ b, ¬ F b := fun he => by
    cases q with
    | true =>
      have := h1 rfl
      rw [he] at this
      cases this with
      | sc _ _ h => exact h
    | false => exact hF rfl
  cases c with
  | u8 b => have := hsc rfl; cases h2; exact .pl _ _ _ (.u8 b) this
  | int k n => have := hsc rfl; cases h2; exact .pl _ _ _ (.int k n) this
  | bool b => have := hsc rfl; cases h2; exact .pl _ _ _ (.bool b) this
  | str l => have := hsc rfl; cases h2; exact .pl _ _ _ (.str l) this
  | dat d =>
    cases q with
    | true => exact .own true d u F (h1 rfl)
    | false => exact .pl _ _ _ (.dat d u (h2.mono fun b hb => hb.resolve_right (hF rfl b))) (hF rfl)
  | _ => cases hp
theorem take_cells (hw : WRel X G) {v : AV} {u : Value} (hv : RelV X v u) (hone : (∀ cs, v ≠ .agg cs) → (∀ us, TakenL X G (takeL [v] X.hp) us → ∀ c ∈ us, c.oneCell' = true)) :
    TakenL X G (takeL (cellsOf v) X.hp) u.cells.toList := by
  by_cases hc : ∃ cs, v = .agg cs
  · obtain ⟨cs, rfl⟩ := hc
    cases hv with
    | agg cs vs hl hr => exact takeL_rel hw (by simpa [cellsOf, Value.cells] using hl) (fun j c u hj hu => hr j c u hj (by simpa [Value.cells] using hu))
  · have e : cellsOf v = [v] := by cases v <;> first | rfl | exact absurd ⟨_, rfl⟩ hc
    have h := takeL_rel hw (cs := [v]) (us := [u]) rfl (fun j c u' hj hu => by
      cases j with
      | zero => simp at hj hu; subst hj; subst hu; exact hv
      | succ j => simp at hj)
    have h1 : u.cells.toList = [u] := by rw [one_cells (hone (fun cs he => hc ⟨cs, he⟩) [u] h u (by simp))]
    rw [h1, e]
    exact h
theorem storeRow_sound (hE : EnvOk P E) (hw : WRel X G) {dst ty pos after gd t} {x y : Operand} {e : Operand → AV} (hx : RelV X (e x) (a.eval x)) (hy : RelV X (e y) (a.eval y)) {id off : Nat} {i : Int} (hex : e x = .elp id i off) {q : Bool} {d : Data} (hb : hgt X.hp id = .row q d)
    (hsz : szT (E.td t) (cellsOf (e y)).length = true) {vs : List AV} {hp1 : Hp} (hT : takeL (cellsOf (e y)) (hput id .dead X.hp) = (vs, hp1)) {z : d.k.den} {o' : Bool} (hm : elemMk d.k (setAt ((elemCells d.k (d.get i)).map (ownCell q)) off vs) = some (z, o')) (hfit : off + vs.length ≤ d.k.esz) :
    OpH P X G ⟨dst, .store t x y, ty, pos, after, gd⟩ a .any (hput id (.row (q && o') ⟨d.k, d.l.set i.toNat z⟩) hp1) X.nx := by
  rw [hex] at hx
  obtain ⟨g, b0, hav, hb0, hob, hi0, hi1, _⟩ := elp_cells hw hx hb
  have hid : id < X.nx := by cases hx; assumption
  obtain ⟨_, hkk, _⟩ := row_val hw (RelV.row id (X.ob id).v hid rfl) hb
  obtain ⟨us, fs, w1, ho, hc, hne, hfr, _, hqf⟩ := openrow hw (RelV.row id (X.ob id).v hid rfl) hb
  have hdead : hgt (killC X id).hp id = .dead := by rw [show (killC X id).hp = hput id .dead X.hp from rfl, hgt_hput, if_pos rfl]
  have husl : us.length = d.l.length * d.k.esz := ho.1
  have hcl : ((elemCells d.k (d.get i)).map (ownCell q)).length = d.k.esz := by rw [List.length_map, elemCells_len]
  -- what is stored
  have hT' : takeL (cellsOf (e y)) (killC X id).hp = (vs, hp1) := hT
  have htk : TakenL (killC X id) G (takeL (cellsOf (e y)) (killC X id).hp) (a.eval y).cells.toList := by
    refine take_cells w1 (hy.ext (kill_same id).ext) fun hna us2 ht c hc' => ?_
    have e1 : cellsOf (e y) = [e y] := by cases hey : e y <;> first | rfl | exact absurd hey (hna _)
    rw [e1] at hT'
    rw [hT'] at ht
    obtain ⟨fs2, k1, k2, k3, k4, k5⟩ := ht
    obtain ⟨m1, m2⟩ := elemMk_cells (X := { killC X id with hp := hp1 }) hm
    obtain ⟨j, hj, rfl⟩ := List.getElem_of_mem hc'
    have hjv : j < vs.length := by rw [k4.len]; exact hj
    have hlt : off + j < (elemCD X.ety d.k z).length := by rw [elemCD_len]; omega
    exact (m2 (off + j) vs[j] _ us2[j] (fs2 j) (List.getElem?_eq_getElem hlt) (by rw [setAt_get (by omega), if_pos (by omega)]; simp) (k4.rel j _ _ (List.getElem?_eq_getElem hjv) (List.getElem?_eq_getElem hj))).1
  rw [hT'] at htk
  obtain ⟨fs2, k1, k2, k3, k4, k5⟩ := htk
  simp only at k1 k2 k3 k4 k5
  generalize hU2 : (a.eval y).cells.toList = us2 at *
  have hvl : vs.length = us2.length := k4.len
  obtain ⟨m1, m2⟩ := elemMk_cells (X := { killC X id with hp := hp1 }) hm
  generalize hX2 : ({ killC X id with hp := hp1 } : Ctx) = X2 at *
  have xw : X2.w = X.w := by rw [← hX2]
  have xR : X2.R = X.R := by rw [← hX2]
  have xh : X2.hp = hp1 := by rw [← hX2]
  have xn : X2.nx = X.nx := by rw [← hX2]
  have xe : X2.ety = X.ety := by rw [← hX2]
  have xo : X2.ob = X.ob := by rw [← hX2]
  rw [xe] at m1 m2
  have hc2 : CellsJ X2 G q (d.l.map (elemCD X.ety d.k)).flatten us fs := hc.step k2 k3 fun _ _ _ _ h => h
  have hfr2 : Free X2 G (fun b => (X.ob id).v.ownBlock = some b) := hfr.foot k3 k2.w k2.R fun _ _ h => h
  have hdj : ∀ j k b, j < us.length → k < us2.length → fs j b → fs2 k b → False := fun j k b hj hk e1 e2 => by
    obtain ⟨id', l1, l2⟩ := k5 k b (by omega) e2
    exact (hc.free j hj).nl id' b l1 l2 e1
  -- the new cells
  let base := i.toNat * d.k.esz + off
  have hilt : i.toNat < d.l.length := by omega
  have hesz0 : 0 < d.k.esz := by cases d.k <;> decide
  have hrow : (i.toNat + 1) * d.k.esz ≤ d.l.length * d.k.esz := Nat.mul_le_mul_right _ hilt
  have hrow' : (i.toNat + 1) * d.k.esz = i.toNat * d.k.esz + d.k.esz := by rw [Nat.add_mul, Nat.one_mul]
  have hbl : base + us2.length ≤ us.length := by show i.toNat * d.k.esz + off + us2.length ≤ _; omega
  let us' := setL us base us2
  have hus' : us'.length = us.length := setL_len hbl
  let hs : Nat → Nat → Prop := fun k b => (base ≤ k ∧ k < base + us2.length ∧ fs2 (k - base) b) ∨ (¬ (base ≤ k ∧ k < base + us2.length) ∧ fs k b)
  have hcells : CellsJ X2 G (q && o') ((d.l.set i.toNat z).map (elemCD X2.ety d.k)).flatten us' hs := by
    rw [xe]
    have hfl : ((d.l.set i.toNat z).map (elemCD X.ety d.k)).flatten.length = d.l.length * d.k.esz := by
      rw [flatten_len (n := d.k.esz) (fun row hr => by obtain ⟨x, _, rfl⟩ := List.mem_map.1 hr; exact elemCD_len X.ety d.k x), List.length_map, List.length_set]
    refine ⟨by rw [hfl, hus', husl], fun j cd u hj hu => ?_, fun j k b hj hk e1 e2 => ?_, fun j hj => ?_⟩
    · have hjl : j < d.l.length * d.k.esz := by rw [← hfl]; exact (List.getElem?_eq_some_iff.1 hj).1
      obtain ⟨x0, hx0, hx1, hmod⟩ := flat_at (X := X) (xs := d.l.set i.toNat z) (by rw [List.length_set]; exact hjl)
      rw [hx1] at hj
      rw [setL_get hbl] at hu
      have hdm := Nat.div_add_mod j d.k.esz
      by_cases hr : j / d.k.esz = i.toNat
      · -- the element that is turned
        rw [hr, List.getElem?_set_self hilt] at hx0
        cases hx0
        have hje : j = i.toNat * d.k.esz + j % d.k.esz := by rw [← hr, Nat.mul_comm]; omega
        by_cases hin : base ≤ j ∧ j < base + us2.length
        · rw [if_pos hin] at hu
          have hbase : base = i.toNat * d.k.esz + off := rfl
          have hidx : j % d.k.esz - off = j - base := by omega
          have hlv : j - base < vs.length := by omega
          have := m2 (j % d.k.esz) (vs[j - base]'hlv) cd u (fs2 (j - base)) hj (by rw [setAt_get (by omega), if_pos (by omega), hidx]; exact List.getElem?_eq_getElem hlv) (k4.rel (j - base) _ u (List.getElem?_eq_getElem hlv) hu)
          have := this.weak (q' := q && o') (by simp +contextual)
          have hh : hs j = fs2 (j - base) := funext fun b => propext ⟨fun h => h.elim (fun h => h.2.2) (fun h => absurd hin h.1), fun h => .inl ⟨hin.1, hin.2, h⟩⟩
          rw [hh]
          exact this
        · rw [if_neg hin] at hu
          have hbase : base = i.toNat * d.k.esz + off := rfl
          obtain ⟨x1, hx1', hx2, _⟩ := flat_at (X := X) (xs := d.l) hjl
          rw [hr, List.getElem?_eq_getElem hilt] at hx1'
          cases hx1'
          have hget : d.get i = d.l[i.toNat] := by simp [Data.get, List.getD, hilt]
          rw [← hget] at hx2
          have hlc : j % d.k.esz < (elemCells d.k (d.get i)).length := by rw [elemCells_len]; exact hmod
          have hcd0 : (elemCD X.ety d.k (d.get i))[j % d.k.esz]? = some (cellCD X.ety (elemCells d.k (d.get i))[j % d.k.esz]) := by rw [elemCD_cells, List.getElem?_map, List.getElem?_eq_getElem hlc]; rfl
          rw [hcd0] at hx2
          have hcj := hc2.rel j _ u hx2 hu
          rw [← xe] at hcj
          have hjus : j < us.length := (List.getElem?_eq_some_iff.1 hu).1
          have hra := keep_cell (X := X2) (elemCells_plain d.k (d.get i) _ (List.getElem_mem hlc)) hcj (fun hq b => hqf hq j b hjus)
          have := (m2 (j % d.k.esz) (ownCell q (elemCells d.k (d.get i))[j % d.k.esz]) cd u (fs j) hj (by rw [setAt_get (by omega), if_neg (by omega), List.getElem?_map, List.getElem?_eq_getElem hlc]; rfl) hra).weak (q' := q && o') (by simp +contextual)
          have hh : hs j = fs j := funext fun b => propext ⟨fun h => h.elim (fun h => absurd ⟨h.1, h.2.1⟩ hin) (fun h => h.2), fun h => .inr ⟨hin, h⟩⟩
          rw [hh]
          exact this
      · rw [List.getElem?_set_ne (fun h => hr h.symm)] at hx0
        have hnin : ¬ (base ≤ j ∧ j < base + us2.length) := by
          intro hin
          have hbase : base = i.toNat * d.k.esz + off := rfl
          apply hr
          apply Nat.div_eq_of_lt_le
          · omega
          · show j < (i.toNat + 1) * d.k.esz
            omega
        rw [if_neg hnin] at hu
        obtain ⟨x1, hx1', hx2, _⟩ := flat_at (X := X) (xs := d.l) hjl
        rw [hx0] at hx1'
        cases hx1'
        rw [← hx2] at hj
        have := (hc2.rel j cd u hj hu).weak (q' := q && o') (by simp +contextual)
        have hh : hs j = fs j := funext fun b => propext ⟨fun h => h.elim (fun h => absurd ⟨h.1, h.2.1⟩ hnin) (fun h => h.2), fun h => .inr ⟨hnin, h⟩⟩
        rw [hh]
        exact this
    · rw [hus'] at hj hk
      rcases e1 with ⟨a1, a2, a3⟩ | ⟨a1, a2⟩ <;> rcases e2 with ⟨b1, b2, b3⟩ | ⟨b1, b2⟩
      · have := k4.dis _ _ b (by omega) (by omega) a3 b3
        omega
      · exact (hdj k (j - base) b hk (by omega) b2 a3).elim
      · exact (hdj j (k - base) b hj (by omega) a2 b3).elim
      · exact hc.dis j k b hj hk a2 b2
    · rw [hus'] at hj
      by_cases hin : base ≤ j ∧ j < base + us2.length
      · exact (k4.free (j - base) (by omega)).sub fun b hb => hb.elim (fun h => h.2.2) (fun h => absurd hin h.1)
      · exact (hc2.free j hj).sub fun b hb => hb.elim (fun h => absurd ⟨h.1, h.2.1⟩ hin) (fun h => h.2)
  -- the store
  obtain ⟨ii, hii, hisz⟩ := szT_ok hE hsz
  have hyl : (a.eval y).cells.size = us2.length := by rw [← hU2, Array.length_toList]
  have hcl2 : (cellsOf (e y)).length = us2.length := by
    have : ∀ (cs : List AV) (hp : Hp), (takeL cs hp).1.length = cs.length := by
      intro cs
      induction cs with
      | nil => intro hp; rfl
      | cons c cs ih => intro hp; simp [takeL, ih]
    rw [← hvl, ← this (cellsOf (e y)) (hput id .dead X.hp), hT]
  have hone : ∀ u ∈ us2, u.oneCell' = true := by
    intro u hu
    obtain ⟨j, hj, rfl⟩ := List.getElem_of_mem hu
    have hjb : base + j < us'.length := by rw [hus']; omega
    refine (hcells.rel (base + j) _ us2[j] (List.getElem?_eq_getElem (by rw [hcells.len]; exact hjb)) ?_).1
    show (setL us base us2)[base + j]? = _
    rw [setL_get hbl, if_pos ⟨Nat.le_add_right _ _, by omega⟩, Nat.add_sub_cancel_left]
    exact List.getElem?_eq_getElem hj
  rcases ho.2 with ⟨hn, h0⟩ | ⟨g', cap, cur, fz, hn, ⟨eb, hg⟩, hfz, hcap, hmax, hcsz, htk⟩
  · omega
  have hgg : g' = g := by rw [hn] at hob; simpa [Value.ownBlock] using hob
  subst hgg
  have hcapl : d.l.length * d.k.esz ≤ cur.size := by rw [hcsz]; exact Nat.mul_le_mul_right _ hcap
  obtain ⟨w', cur', r1, r2, r3, r4, r5⟩ := st_cells (P := P) (o := base) us2 0 cur X.w hg hfz (by omega) hone
  refine opH_skip (w' := w') ?_ ?_
  · have hav' : a.eval x = .pointer (some ⟨g', base, none⟩) := by rw [hav, hb0]
    simp only [execOp, hav', Sem.run_bind, run_storeAt hii (by rw [hisz, hcl2, hyl]) (by rw [hU2]; exact r1), Result.andThen_ok, Sem.run_pure]
  · have ho' : ownR w' (X2.ety d.k) d.k.esz (X.ob id).v (d.l.set i.toNat z).length us' := by
      rw [List.length_set]
      refine ⟨by rw [hus', husl], .inr ⟨g', cap, cur', fz, hn, ⟨eb, r2⟩, by rw [r3]; exact hfz, hcap, hmax, by rw [r3]; exact hcsz, ?_⟩⟩
      apply List.ext_getElem?
      intro j
      show _ = (setL us base us2)[j]?
      rw [setL_get hbl, List.getElem?_take, Array.getElem?_toList, r4 j, Nat.add_zero, ← htk, List.getElem?_take, Array.getElem?_toList]
      by_cases hj : j < d.l.length * d.k.esz
      · rw [if_pos hj, if_pos hj, Array.getElem?_toList]
      · rw [if_neg hj, if_neg (by omega), if_neg hj]
    have hkeep : Keep (fun b => (X.ob id).v.ownBlock = some b) X2.w w' := by
      rw [xw]
      exact r5.mono fun b hb => by rw [hb]; exact hob
    have mk := makerow (k := d.k) (xs := d.l.set i.toNat z) k1 hcells hfr2 hkeep (fun j b hj hb hh => by
      rw [hus'] at hj
      rcases hb with ⟨c1, c2, c3⟩ | ⟨c1, c2⟩
      · obtain ⟨id', l1, l2⟩ := k5 (j - base) b (by omega) c3
        exact hfr.nl id' b l1 l2 hh
      · exact hne j b hj c2 hh) ho' (fun b hb => .inl hb) (id := id) (nx := X.nx) (by omega) hid (fun _ => by rw [xo]; exact ⟨rfl, hkk⟩)
    obtain ⟨X3, n1, n2, n3, n4, n5, _⟩ := mk
    exact ⟨X3, Ext.trans (X := X) (Y := X2) (Z := X3) (fun b hb _ => k1.rl b (by rw [xR]; exact hb)) (Ext.trans (X := X) (Y := killC X id) (Z := X2) (fun _ _ h => h) (kill_same id).ext k2.ext) n1, n2, by rw [n3, xh], n4, n5, .any _⟩
end
end Go.Ab
/- The engine, part Z: appends; the theorem of all operations. -/
namespace Go.Ab
open Go
section
variable {P : Program} {E : Env} {X Y Z : Ctx} {G : Beg} {o : Oper} {a : Act}
theorem flat_sc {k : K} (hk : k.flat = true) {x : k.den} {cd : CD} (hm : cd ∈ elemCD X.ety k x) : ∃ v, cd = .sc v ∧ v.oneCell' = true := by
  rw [elemCD_cells] at hm
  obtain ⟨c, hc, rfl⟩ := List.mem_map.1 hm
  have hp := elemCells_plain k x c hc
  cases c with
  | dat d => cases k <;> first | (cases hk; done) | (simp [elemCells] at hc)
  | u8 b => exact ⟨_, rfl, rfl⟩
  | int k n => exact ⟨_, rfl, rfl⟩
  | bool b => exact ⟨_, rfl, rfl⟩
  | str l => exact ⟨_, rfl, rfl⟩
  | _ => cases hp
theorem flat_cells {k : K} (hk : k.flat = true) {xs : List k.den} {us : List Value} (hl : (xs.map (elemCD X.ety k)).flatten.length = us.length) {w : World} {R : Nat → Prop} (h : ∀ (j : Nat) (cd : CD) (u : Value), (xs.map (elemCD X.ety k)).flatten[j]? = some cd → us[j]? = some u → Rep w R cd u) {q : Bool} :
    CellsJ X G q (xs.map (elemCD X.ety k)).flatten us (fun _ _ => False) := by
  refine ⟨hl, fun j cd u hj hu => ?_, fun _ _ _ _ _ h => h.elim, fun _ _ => .empty⟩
  have hr := h j cd u hj hu
  obtain ⟨x, hx⟩ := flat_mem hj
  obtain ⟨v, rfl, hv⟩ := flat_sc hk hx
  cases hr
  exact ⟨hv, fun _ => .sc _ _ (fun _ h => h), .sc _⟩
theorem TakenE.same (hw : WRel X G) {q : Bool} {cds : List CD} {us : List Value} (h : CellsJ X G q cds us (fun _ _ => False)) : TakenE X G X.hp q cds us :=
  ⟨fun _ _ => False, hw, .refl X, .refl X, h, fun _ _ _ h => h.elim⟩
/-- What is appended. -/
theorem src_sound (hE : EnvOk P E) (hw : WRel X G) {k : K} {tx : TypeId} {x : AV} {vx : Value} (hx : RelV X x vx) {l : List k.den} {q : Bool} {hp2 : Hp} (h : appSrc k x X.hp = some (l, q, hp2)) (ht : srcT k (E.td tx) = true) :
    ∃ news, Src P k.esz tx vx l.length news X.w ∧ TakenE X G hp2 q (l.map (elemCD X.ety k)).flatten news := by
  have hkind : (∃ e', P.underlying tx = some (.slice e')) ∨ P.underlying tx = some .string := by
    have hT := hE.td tx
    cases htd : E.td tx with
    | sl j =>
      rw [htd] at hT
      obtain ⟨e', _, hu, _⟩ := hT
      exact .inl ⟨e', hu⟩
    | one z =>
      rw [htd] at hT ht
      obtain ⟨d, zv, _, hu, _, _, hc⟩ := hT
      cases z <;> first | (cases ht; done) | (cases hc; exact .inr hu)
    | unk => rw [htd] at ht; cases ht
    | st n fs z => rw [htd] at ht; cases ht
  have mk : ∀ (A : Option Addr) (cap : Nat) (news : List Value), news.length = l.length * k.esz → (∀ u ∈ news, u.oneCell' = true) → (news = [] ∨ ∃ b of, A = some ⟨b, of, none⟩ ∧ ∀ (j : Nat) (u : Value), news[j]? = some u → X.w.cell? ⟨b, of + j, none⟩ = some u) → Src P k.esz tx (.slice A l.length cap) l.length news X.w := by
    intro A cap news hl h1 hc
    rcases hc with rfl | ⟨b, of, rfl, hc⟩
    · have hl0 : l.length = 0 := by
        have h0 : 0 < k.esz := by cases k <;> decide
        have h1 : l.length * k.esz = 0 := hl.symm
        rcases Nat.mul_eq_zero.1 h1 with h | h
        · exact h
        · omega
      rw [hl0]
      cases A with
      | none => exact ⟨hkind, fun _ => rfl, run_firstCells_none X.w k.esz 0 0 cap, run_firstCells_none X.w.drew k.esz 0 0 cap, by simp, fun _ h => by cases h⟩
      | some ad => exact ⟨hkind, fun _ => rfl, run_firstCells_some X.w k.esz 0 ad 0 cap [] (by simp) (fun j v hj => by simp at hj), run_firstCells_some X.w.drew k.esz 0 ad 0 cap [] (by simp) (fun j v hj => by simp at hj), by simp, fun _ h => by cases h⟩
    · have hadd : ∀ j, (⟨b, of, none⟩ : Addr).add j = ⟨b, of + j, none⟩ := fun j => Addr.add_lit ..
      exact ⟨hkind, fun _ => rfl, run_firstCells_some X.w k.esz l.length _ l.length cap news hl (fun j v hj => by rw [hadd]; exact hc j v hj), run_firstCells_some X.w.drew k.esz l.length _ l.length cap news hl (fun j v hj => by rw [hadd]; exact hc j v hj), hl, h1⟩
  have hrow : ∀ xs : List k.den, (xs.map (elemCD X.ety k)).flatten.length = xs.length * k.esz := fun xs => by
    rw [flatten_len (n := k.esz) (fun row hr => by obtain ⟨x, _, rfl⟩ := List.mem_map.1 hr; exact elemCD_len X.ety k x), List.length_map]
  by_cases hstr : ∃ s, x = .str s
  · obtain ⟨s, rfl⟩ := hstr
    have hk : k = .u8 := by cases k <;> first | rfl | cases h
    subst hk
    cases h
    cases hx
    refine ⟨byteCells ⟨s.toArray⟩, ?_, TakenE.same hw bytes_cells⟩
    have hs := str_size s
    have e1 := firstCells_string (P := P) ⟨s.toArray⟩ X.w
    have e2 := firstCells_string (P := P) ⟨s.toArray⟩ X.w.drew
    rw [hs] at e1 e2
    refine ⟨hkind, fun w0 => congrArg (fun n => Result.ok n w0) hs, e1, e2, by rw [byteCells_length, hs]; exact (Nat.mul_one _).symm, fun u hu => ?_⟩
    obtain ⟨_, _, rfl⟩ := List.mem_map.1 hu
    rfl
  by_cases hrw : ∃ id, x = .row id
  · obtain ⟨id, rfl⟩ := hrw
    replace h : (match hgt X.hp id with | .row o d => (d.asK k).map fun l => (l, o, if k.flat then X.hp else hput id .dead X.hp) | _ => none) = some (l, q, hp2) := by cases k <;> exact h
    split at h
    · rename_i q' d hb
      cases hd : d.asK k with
      | none => rw [hd] at h; cases h
      | some l' =>
        rw [hd] at h
        simp only [Option.map_some, Option.some.injEq, Prod.mk.injEq] at h
        obtain ⟨rfl, rfl, rfl⟩ := h
        have := asK_eq hd
        subst this
        obtain ⟨us, fs, w1, ho, hc, hne, hfr, hin, _⟩ := openrow hw hx hb
        obtain ⟨A, cap, hv, _, _⟩ := own_shape ho
        have hone : ∀ u ∈ us, u.oneCell' = true := fun u hu => by
          obtain ⟨j, hj, rfl⟩ := List.getElem_of_mem hu
          exact (hc.rel j _ _ (List.getElem?_eq_getElem (by rw [hc.len]; exact hj)) (List.getElem?_eq_getElem hj)).1
        refine ⟨us, ?_, ?_⟩
        · rw [hv]
          refine mk A cap us ho.1 hone ?_
          cases us with
          | nil => exact .inl rfl
          | cons u0 us0 =>
            obtain ⟨g, cap2, e1, _⟩ := ho.cell (k := 0) (u := u0) rfl
            rw [hv] at e1
            injection e1 with e1 _ _
            refine .inr ⟨g, 0, e1, fun j u hu => ?_⟩
            obtain ⟨g', cap3, e2, _, hcell⟩ := ho.cell hu
            rw [hv, e1] at e2
            injection e2 with e2 _ _
            injection e2 with e2
            injection e2 with e2
            subst e2
            rw [Nat.zero_add]
            exact hcell
        · split
          · rename_i hk
            exact TakenE.same hw (flat_cells (w := X.w) (R := fun _ => True) hk hc.len fun j cd u hj hu => ((hc.rel j cd u hj hu).2.2).mono fun _ _ => trivial)
          · exact ⟨fs, w1, kill_same id, kill_foot id, hc, fun j b hj hb' => ⟨id, by unfold live; rw [hb]; simp, hin b (.inr ⟨j, hj, hb'⟩)⟩⟩
    · cases h
  by_cases hdt : ∃ d, x = .dat d
  · obtain ⟨d, rfl⟩ := hdt
    replace h : ((d.asK k).map fun l => (l, k.flat, X.hp)) = some (l, q, hp2) := by cases k <;> exact h
    cases hd : d.asK k with
    | none => rw [hd] at h; cases h
    | some l' =>
      rw [hd] at h
      simp only [Option.map_some, Option.some.injEq, Prod.mk.injEq] at h
      obtain ⟨rfl, rfl, rfl⟩ := h
      have := asK_eq hd
      subst this
      cases hx with
      | dat d v hr =>
        unfold dataCD at hr
        generalize hels : ((⟨k, l'⟩ : Data).l.map (elemCD X.ety (⟨k, l'⟩ : Data).k)) = els at hr
        have hels' : l'.map (elemCD X.ety k) = els := hels
        have hlen : els.length = l'.length := by rw [← hels', List.length_map]
        cases hr with
        | sl e n els A cap us hcap hn hc hr =>
          have hfl : els.flatten.length = l'.length * k.esz := by rw [← hels']; exact hrow l'
          let news : List Value := (List.range els.flatten.length).map us
          have hnl : news.length = els.flatten.length := by simp [news]
          have hget : ∀ (j : Nat) (u : Value), news[j]? = some u → j < els.flatten.length ∧ u = us j := by
            intro j u hu
            simp only [news, List.getElem?_map] at hu
            cases hj : (List.range els.flatten.length)[j]? with
            | none => rw [hj] at hu; cases hu
            | some i =>
              rw [hj] at hu
              obtain ⟨h1, h2⟩ := List.getElem?_eq_some_iff.1 hj
              simp at h1 h2
              cases hu
              exact ⟨by simpa using h1, by rw [h2]⟩
          have hrep : ∀ (j : Nat) (cd : CD) (u : Value), els.flatten[j]? = some cd → news[j]? = some u → Rep X.w X.R cd u := by
            intro j cd u hj hu
            rw [(hget j u hu).2]
            exact hr j cd hj
          have hone : ∀ u ∈ news, u.oneCell' = true := by
            intro u hu
            obtain ⟨j, hj, rfl⟩ := List.getElem_of_mem hu
            have hj' : j < els.flatten.length := by rw [← hnl]; exact hj
            obtain ⟨x, hx⟩ := flat_mem (X := X) (k := k) (xs := l') (j := j) (cd := els.flatten[j]) (by rw [hels']; exact List.getElem?_eq_getElem hj')
            exact plain_cell hx (hrep j _ _ (List.getElem?_eq_getElem hj') (List.getElem?_eq_getElem hj))
          refine ⟨news, ?_, ?_⟩
          · rw [hlen]
            refine mk A cap news (by rw [hnl, hfl]) hone ?_
            by_cases h0 : els.flatten.length = 0
            · exact .inl (List.eq_nil_of_length_eq_zero (by rw [hnl]; exact h0))
            · obtain ⟨b, of, hA, _, _⟩ := hc 0 _ (List.getElem?_eq_getElem (by omega))
              refine .inr ⟨b, of, hA, fun j u hu => ?_⟩
              obtain ⟨hj, hu'⟩ := hget j u hu
              obtain ⟨b', of', hA', _, hcell⟩ := hc j _ (List.getElem?_eq_getElem hj)
              rw [hA] at hA'
              cases hA'
              rw [hu']
              exact hcell
          · cases hk : k.flat with
            | true =>
              have := flat_cells (X := X) (G := G) (q := true) hk (xs := l') (us := news) (by rw [hels', hnl]) (fun j cd u hj hu => hrep j cd u (by rw [← hels']; exact hj) hu)
              rw [hels'] at this
              exact TakenE.same hw this
            | false => exact TakenE.same hw ⟨hnl.symm, fun j cd u hj hu => ⟨hone u (List.mem_of_getElem? hu), (fun hq => by cases hq), (hrep j cd u hj hu).mono fun _ h => .inl h⟩, fun _ _ _ _ _ h => h.elim, fun _ _ => .empty⟩
  by_cases hnl : x = .nilS
  · subst hnl
    replace h : some (([] : List k.den), true, X.hp) = some (l, q, hp2) := by cases k <;> exact h
    cases h
    cases hx
    refine ⟨[], ?_, TakenE.same hw .nil⟩
    exact mk none 0 [] (by simp) (fun _ h => by cases h) (.inl rfl)
  · exfalso
    cases x <;> first
      | exact hstr ⟨_, rfl⟩
      | exact hrw ⟨_, rfl⟩
      | exact hdt ⟨_, rfl⟩
      | exact hnl rfl
      | (cases k <;> cases h)
/-- The append itself: X is the state in which neither row has its place any more. -/
theorem app_core (hw : WRel X G) {k : K} {t tx ty e' : TypeId} {i : TypeInfo} {zv : Value} (hu : P.underlying t = some (.slice e')) (hi : P.info? e' = some i) (hsz : i.size = k.esz) (hz : i.zero = some zv) (hzs : zv.cells.size = k.esz) (hby : i.bytes ≤ 256)
    {xs l : List k.den} {q q' : Bool} {v vx : Value} {us news : List Value} {fs gs : Nat → Nat → Prop} (ho : ownR X.w (X.ety k) k.esz v xs.length us) (hfr : Free X G (fun b => v.ownBlock = some b)) (hc : CellsJ X G q (xs.map (elemCD X.ety k)).flatten us fs)
    (hne : ∀ j b, j < us.length → fs j b → v.ownBlock ≠ some b) (hd : CellsJ X G q' (l.map (elemCD X.ety k)).flatten news gs) (hdj : ∀ j i b, j < us.length → i < news.length → fs j b → gs i b → False) (hgb : ∀ j b, j < news.length → gs j b → v.ownBlock ≠ some b)
    (hs : Src P k.esz tx vx l.length news X.w) (hfit : xs.length + l.length ≤ 1073741824) :
    ∃ u w', (Builtin.append_ #[t, tx] ty #[v, vx]).run P X.w = .ok u w' ∧ Shows X G w' (.row X.nx) u (hput X.nx (.row (q && q') ⟨k, xs ++ l⟩) X.hp) (X.nx + 1) := by
  have hesz0 : 0 < k.esz := by cases k <;> decide
  have hcells : CellsJ X G (q && q') ((xs ++ l).map (elemCD X.ety k)).flatten (us ++ news) (appF us.length fs gs) := by
    rw [List.map_append, List.flatten_append]
    exact (hc.weak (by simp +contextual)).append (hd.weak (by simp +contextual)) hdj
  have husl : us.length = xs.length * k.esz := ho.1
  have hnl : news.length = l.length * k.esz := hs.newsLen
  have hone : ∀ u ∈ news, u.oneCell' = true := hs.one
  have happ : (us ++ news).length = (xs ++ l).length * k.esz := by rw [List.length_append, husl, hnl, List.length_append, Nat.add_mul]
  have hfs : ∀ j b, j < (us ++ news).length → appF us.length fs gs j b → v.ownBlock ≠ some b := by
    intro j b hj hb
    rw [List.length_append] at hj
    unfold appF at hb
    split at hb
    · exact hne j b (by assumption) hb
    · exact hgb _ b (by omega) hb
  have hs' : Src P i.size tx vx l.length news X.w := by rw [hsz]; exact hs
  -- the new row
  have grow : ∀ (A : Option Addr) (cap : Nat), v = .slice A xs.length cap → cap < xs.length + l.length → (Builtin.firstCells i.size xs.length v).run P X.w.drew = .ok us.toArray X.w.drew →
      ∃ u w', (Builtin.append_ #[t, tx] ty #[v, vx]).run P X.w = .ok u w' ∧ Shows X G w' (.row X.nx) u (hput X.nx (.row (q && q') ⟨k, xs ++ l⟩) X.hp) (X.nx + 1) := by
    intro A cap hv hg hold
    rw [hv] at hold
    have hfit' : Builtin.nextslicecap (xs.length + l.length) cap * i.bytes ≤ 281474976710656 := growslice_fits hg (by
      have : (xs.length + l.length) * i.bytes ≤ 1073741824 * 256 := Nat.mul_le_mul hfit hby
      omega)
    have hr := run_append_grow_src X.w t tx ty e' i zv hu hi hz A xs.length cap us hold vx l.length news hs' hg (by omega) hfit'
    rw [← hv] at hr
    generalize hcap : grownCap X.w (xs.length + l.length) cap e' = c at hr
    have hge : xs.length + l.length ≤ c := by rw [← hcap]; exact grownCap_ge ..
    have hle : c ≤ maxLen := by rw [← hcap]; exact grownCap_le_maxLen _ _ _ _ (by simp only [maxLen]; omega)
    generalize harr : ((us ++ news).toArray ++ Builtin.zeroCells zv.cells (c - (xs.length + l.length))) = arr at hr
    have hasz : arr.size = c * k.esz := by
      rw [← harr, Array.size_append, size_zeroCells, hzs]
      show (us ++ news).length + _ = _
      rw [happ, List.length_append, ← Nat.add_mul]
      congr 1
      omega
    have hl' : (xs ++ l).length = xs.length + l.length := List.length_append
    have := newrow hw hcells (keep_alloc_drew X.w (.cells arr e')) (alloc_new_drew X.w (.cells arr e')) (cap := c) (fun i _ h => absurd h.2 (Nat.not_lt_zero _)) (by omega) hle hasz (by
      rw [← harr, Array.toList_append]
      show List.take _ ((us ++ news) ++ _) = _
      rw [List.take_append_of_le_length (by rw [happ]; exact Nat.le_refl _), List.take_of_length_le (by rw [happ]; exact Nat.le_refl _)])
    rw [hl'] at this
    exact ⟨_, _, hr, Shows.row this⟩
  -- in place
  have stay : ∀ (w' : World) (v' : Value), Keep (fun b => v.ownBlock = some b) X.w w' → ownR w' (X.ety k) k.esz v' (xs ++ l).length (us ++ news) → (∀ b, v'.ownBlock = some b → v.ownBlock = some b) →
      Shows X G w' (.row X.nx) v' (hput X.nx (.row (q && q') ⟨k, xs ++ l⟩) X.hp) (X.nx + 1) := fun w' v' hk ho' hb =>
    Shows.row (makerow hw hcells hfr hk hfs ho' (fun b h => .inl (hb b h)) (Nat.le_succ _) (Nat.lt_succ_self _) (fun h => absurd h (Nat.lt_irrefl _)))
  rcases ho.2 with ⟨hn, h0⟩ | ⟨g, cap, cur, fz, hn, ⟨eb, hg⟩, hfz, hcap, hmax, hcsz, htk⟩
  · have hus0 : us = [] := List.eq_nil_of_length_eq_zero (by rw [husl, h0, Nat.zero_mul])
    have hxs0 : xs = [] := List.eq_nil_of_length_eq_zero h0
    by_cases hl0 : l.length = 0
    · have hnews0 : news = [] := List.eq_nil_of_length_eq_zero (by rw [hnl, hl0, Nat.zero_mul])
      have hl00 : l = [] := List.eq_nil_of_length_eq_zero hl0
      subst hnews0
      subst hl00
      subst hus0
      subst hxs0
      refine ⟨.slice none 0 0, X.w, ?_, stay X.w _ (.refl _ _) (by rw [← hn]; exact ho) (fun b hb => by simp [Value.ownBlock] at hb)⟩
      rw [hn]
      exact run_append_nothing X.w t tx ty e' i hu hi none 0 0 (Nat.le_refl _) vx hs'
    · refine grow none 0 (by rw [hn, h0]) (by omega) ?_
      rw [hn, h0, hus0]
      exact run_firstCells_none ..
  · have hcapl : xs.length * k.esz ≤ cur.size := by rw [hcsz]; exact Nat.mul_le_mul_right _ hcap
    by_cases hroom : xs.length + l.length ≤ cap
    · have hroom' : (xs.length + l.length) * k.esz ≤ cur.size := by rw [hcsz]; exact Nat.mul_le_mul_right _ hroom
      rw [Nat.add_mul] at hroom'
      obtain ⟨w', cur', r1, r2, r3, r4, r5⟩ := st_cells (P := P) (o := xs.length * k.esz) news 0 cur X.w hg hfz (by omega) hone
      refine ⟨.slice (some ⟨g, 0, none⟩) (xs.length + l.length) cap, w', ?_, stay w' _ (r5.mono fun b hb => by rw [hn, hb]; rfl) ⟨happ, .inr ⟨g, cap, cur', fz, by rw [List.length_append], ⟨eb, r2⟩, by rw [r3]; exact hfz, by rw [List.length_append]; exact hroom, hmax, by rw [r3]; exact hcsz, ?_⟩⟩ (fun b hb => by rw [hn]; exact hb)⟩
      · rw [hn]
        rcases hs.kind with ⟨e2, hk⟩ | hk <;> simp [Builtin.append_, run_underlying hu, run_underlying hk, sizeOf, typeInfo, hi, hs.len, hroom, hsz, hs.cells, Addr.add_lit, r1]
      · apply List.ext_getElem?
        intro j
        rw [List.getElem?_take, Array.getElem?_toList, r4 j, Nat.add_zero, List.length_append, Nat.add_mul, ← hnl]
        by_cases hj : j < xs.length * k.esz
        · rw [if_pos (by omega), if_neg (by omega), List.getElem?_append_left (by omega), ← htk, List.getElem?_take, if_pos hj, Array.getElem?_toList]
        · rw [List.getElem?_append_right (by omega), husl]
          by_cases hj2 : j < xs.length * k.esz + news.length
          · rw [if_pos hj2, if_pos (by omega)]
          · rw [if_neg hj2, List.getElem?_eq_none (by omega)]
    · refine grow (some ⟨g, 0, none⟩) cap hn (by omega) ?_
      rw [hn, hsz]
      refine run_firstCells_some X.w.drew k.esz xs.length _ xs.length cap us husl (fun j u hj => ?_)
      obtain ⟨g', cap', e1, _, hcell⟩ := ho.cell hj
      rw [hn] at e1
      injection e1 with e1 _ _
      injection e1 with e1
      injection e1 with e1
      subst e1
      rw [Addr.add_lit, Nat.zero_add]
      exact hcell
end
end Go.Ab
/- The engine, part Aa: the theorem of all operations. -/
namespace Go.Ab
open Go
section
variable {P : Program} {E : Env} {X Y Z : Ctx} {G : Beg} {o : Oper} {a : Act}
theorem append_sound (hE : EnvOk P E) (hw : WRel X G) {dst ty pos after gd} {args : Array Operand} {ats : Array TypeId} {e : Operand → AV} (he : ∀ x, x ∈ args.toList → RelV X (e x) (a.eval x)) {p : Option Prop} {v : AV} {hp : Hp} {nx : Nat}
    (h : stepH E ⟨dst, .call ⟨.builtin .append, args, ats⟩, ty, pos, after, gd⟩ e X.hp X.nx = some (p, v, hp, nx)) (hq : ∀ q, p = some q → q) : OpH P X G ⟨dst, .call ⟨.builtin .append, args, ats⟩, ty, pos, after, gd⟩ a v hp nx := by
  simp only [stepH] at h
  split at h
  rotate_left
  · cases h
  rename_i s x t tx hargs hats
  obtain ⟨sx, xx, hax⟩ : ∃ sx xx, args.toList = [sx, xx] := by
    match hl : args.toList, hargs with
    | [u, w], _ => exact ⟨u, w, rfl⟩
  rw [hax] at hargs
  simp only [List.map_cons, List.map_nil, List.cons.injEq, and_true] at hargs
  obtain ⟨rfl, rfl⟩ := hargs
  have hsv := he sx (by rw [hax]; simp)
  have hxv := he xx (by rw [hax]; simp)
  have harr : args = #[sx, xx] := by rw [← Array.toList_inj, hax]
  have hatr : ats = #[t, tx] := by rw [← Array.toList_inj, hats]
  subst harr
  subst hatr
  have hexec : ∀ {u : Value} {w' : World}, (Builtin.append_ #[t, tx] ty #[a.eval sx, a.eval xx]).run P X.w = .ok u w' → (execOp a.eval ⟨dst, .call ⟨.builtin .append, #[sx, xx], #[t, tx]⟩, ty, pos, after, gd⟩).run P X.w = .ok (.value u) w' := fun hr => by
    simp [execOp, resolve, invoke, builtin, hr]
  split at h
  rotate_left
  · cases h
  rename_i k htd
  split at h
  rotate_left
  · cases h
  rename_i hsrc
  have hT := hE.td t
  rw [htd] at hT
  obtain ⟨e', _, hu, hsz, _, zv, bb, hzb, _, hb1, hcv⟩ := hT
  obtain ⟨i, hi, hsz⟩ := info_of hsz
  obtain ⟨i', hi', hzb⟩ := info_of hzb
  rw [hi] at hi'
  cases hi'
  have hz : i.zero = some zv := by simpa using (Prod.mk.inj hzb).1
  have hby : i.bytes ≤ 256 := by have : i.bytes = bb := by simpa using (Prod.mk.inj hzb).2
                                 omega
  obtain ⟨z1, _⟩ := zero_cells (X := X) hcv
  have hzs : zv.cells.size = k.esz := by rw [← z1, Array.length_toList]
  split at h
  · rename_i id hes
    split at h
    rotate_left
    · cases h
    rename_i q d hb
    split at h
    rotate_left
    · cases h
    rename_i hdk
    subst hdk
    rw [hes] at hsv
    cases hap : appSrc d.k (e xx) (hput id .dead X.hp) with
    | none => rw [hap] at h; cases h
    | some r =>
    obtain ⟨l, q', hp2⟩ := r
    rw [hap] at h
    cases h
    have hfit := hq _ rfl
    obtain ⟨us, fs, w1, ho, hc, hne, hfr, _, _⟩ := openrow hw hsv hb
    obtain ⟨news, hs, gs, t1, t2, t3, t4, t5⟩ := src_sound (X := killC X id) hE w1 (hxv.ext (kill_same id).ext) hap hsrc
    have hSame : Same X { killC X id with hp := hp2 } := (kill_same id).trans t2
    obtain ⟨u, w', hr, hsh⟩ := app_core (X := { killC X id with hp := hp2 }) (G := G) (P := P) (t := t) (tx := tx) (ty := ty) t1 hu hi hsz hz hzs hby (v := a.eval sx) (vx := a.eval xx) ho (hfr.foot t3 t2.w t2.R fun _ _ h => h) (hc.step t2 t3 fun _ _ _ _ h => h) hne t4
      (fun j i b hj hi' e1 e2 => by obtain ⟨id', l1, l2⟩ := t5 i b hi' e2; exact (hc.free j hj).nl id' b l1 l2 e1) (fun j b hj hb' hh => by obtain ⟨id', l1, l2⟩ := t5 j b hj hb'; exact hfr.nl id' b l1 l2 hh) hs hfit
    exact opH_value (hexec hr) (Shows.after hSame t1 hsh)
  · rename_i hes
    rw [hes] at hsv
    have hv0 : a.eval sx = .slice none 0 0 := by
      generalize a.eval sx = vv at hsv
      cases hsv
      rfl
    cases hap : appSrc k (e xx) X.hp with
    | none => rw [hap] at h; cases h
    | some r =>
    obtain ⟨l, q', hp2⟩ := r
    rw [hap] at h
    cases h
    have hfit := hq _ rfl
    obtain ⟨news, hs, gs, t1, t2, t3, t4, t5⟩ := src_sound hE hw hxv hap hsrc
    have hob : (a.eval sx).ownBlock = none := by rw [hv0]; rfl
    obtain ⟨u, w', hr, hsh⟩ := app_core (X := { X with hp := hp2 }) (G := G) (P := P) (t := t) (tx := tx) (ty := ty) t1 hu hi hsz hz hzs hby (k := k) (xs := []) (q := true) (us := []) (fs := fun _ _ => False) (v := a.eval sx) (vx := a.eval xx)
      ⟨by simp, .inl ⟨hv0, rfl⟩⟩ (Free.empty.sub fun b hb => by rw [hob] at hb; cases hb) .nil (fun _ _ h => absurd h (Nat.not_lt_zero _)) t4 (fun _ _ _ h => absurd h (Nat.not_lt_zero _)) (fun j b _ _ hh => by rw [hob] at hh; cases hh) hs (by simpa using hfit)
    exact opH_value (hexec hr) (Shows.after t2 t1 hsh)
  · cases h
theorem callV_sound (hE : EnvOk P E) (hety : X.ety = E.ety) (hw : WRel X G) {dst ty pos after gd} {f : Operand} {args : Array Operand} {ats : Array TypeId} {e : Operand → AV} (hf : RelV X (e f) (a.eval f)) (he : ∀ x, x ∈ args.toList → RelV X (e x) (a.eval x)) {p : Option Prop} {v : AV} {hp : Hp} {nx : Nat}
    (h : stepH E ⟨dst, .call ⟨.value f, args, ats⟩, ty, pos, after, gd⟩ e X.hp X.nx = some (p, v, hp, nx)) (hq : ∀ q, p = some q → q) : OpH P X G ⟨dst, .call ⟨.value f, args, ats⟩, ty, pos, after, gd⟩ a v hp nx := by
  simp only [stepH] at h
  split at h
  rotate_left
  · cases h
  rename_i g first caps hfe
  rw [hfe] at hf
  split at h
  · rename_i sp hcal
    exact callH_sound hE hety hw hcal hf he h hq
  · cases h
theorem store_sound (hE : EnvOk P E) (hw : WRel X G) {dst ty pos after gd t} {x y : Operand} {e : Operand → AV} (hx : RelV X (e x) (a.eval x)) (hy : RelV X (e y) (a.eval y)) {p : Option Prop} {v : AV} {hp : Hp} {nx : Nat}
    (h : stepH E ⟨dst, .store t x y, ty, pos, after, gd⟩ e X.hp X.nx = some (p, v, hp, nx)) : OpH P X G ⟨dst, .store t x y, ty, pos, after, gd⟩ a v hp nx := by
  simp only [stepH] at h
  split at h
  rotate_left
  · cases h
  rename_i hsz
  split at h
  · rename_i id off hex
    split at h
    · rename_i tb cs hb
      split at h
      · rename_i hc
        cases h
        obtain ⟨hc, h3⟩ := (Bool.and_eq_true _ _ ▸ hc : _ ∧ _)
        obtain ⟨h1, h2⟩ := (Bool.and_eq_true _ _ ▸ hc : _ ∧ _)
        exact storeBox_sound hE hw hx hy hex hb hsz h1 h2 (of_decide_eq_true h3)
      · cases h
    · cases h
  · rename_i id i off hex
    split at h
    · rename_i q d hb
      generalize hT : takeL (cellsOf (e y)) (hput id .dead X.hp) = r at h
      obtain ⟨vs, hp1⟩ := r
      simp only at h
      cases hm : elemMk d.k (setAt ((elemCells d.k (d.get i)).map (ownCell q)) off vs) with
      | none => rw [hm] at h; cases h
      | some r =>
        obtain ⟨z, o'⟩ := r
        rw [hm] at h
        simp only at h
        split at h
        · rename_i hfit
          cases h
          exact storeRow_sound hE hw hx hy hex hb hsz hT hm (of_decide_eq_true hfit)
        · cases h
    · cases h
  · cases h
theorem stepH_sound (hE : EnvOk P E) (hety : X.ety = E.ety) (hw : WRel X G) {e : Operand → AV} (he : ∀ x, x ∈ o.op.operands.toList → RelV X (e x) (a.eval x)) {p : Option Prop} {v : AV} {hp : Hp} {nx : Nat}
    (h : stepH E o e X.hp X.nx = some (p, v, hp, nx)) (hq : ∀ q, p = some q → q) : OpH P X G o a v hp nx := by
  obtain ⟨dst, op, ty, pos, after, gd⟩ := o
  cases op with
  | alloc t => exact alloc_sound hE hw h
  | box t x => exact box_sound hw (he x (by simp [Op.operands])) h
  | buildSlice t len parts => exact buildSlice_sound hE hw he h
  | makeSlice t l c => exact makeSlice_sound hE hw (he l (by simp [Op.operands])) (he c (by simp [Op.operands])) h hq
  | convert s d x => exact convert_sound hE hw (he x (by simp [Op.operands])) h hq
  | store t x y => exact store_sound hE hw (he x (by simp [Op.operands])) (he y (by simp [Op.operands])) h
  | slice t x lo hi mx =>
    cases lo with
    | some l => cases h
    | none => cases hi with
      | none => cases h
      | some y => cases mx with
        | some m => cases h
        | none => exact cutRow_sound hE hw (he x (by simp [Op.operands])) (he y (by simp [Op.operands])) h hq
  | call c =>
    obtain ⟨cal, args, ats⟩ := c
    have hargs : ∀ x, x ∈ args.toList → RelV X (e x) (a.eval x) := fun x hx => he x (by simp only [Op.operands, Call.operands]; cases cal <;> simp [Array.mem_toList_iff.1 hx])
    cases cal with
    | value f => exact callV_sound hE hety hw (he f (by simp [Op.operands, Call.operands])) hargs h hq
    | invoke r m => cases h
    | builtin b =>
      cases b with
      | append => exact append_sound hE hw hargs h hq
      | _ => cases h
  | _ => cases h
/-- What runs, quiet or not. -/
theorem stepW_sound (hE : EnvOk P E) (hety : X.ety = E.ety) (hw : WRel X G) {e : Operand → AV} (he : ∀ x, x ∈ o.op.operands.toList → RelV X (e x) (a.eval x)) {s : St} (hs : s.hp = X.hp) (hn : s.nx = X.nx) {q p : Option Prop} {v : AV} {hp : Hp} {nx : Nat}
    (h : stepW E o e q s = some (p, v, hp, nx)) (hq : ∀ q, p = some q → q) : OpH P X G o a v hp nx := by
  unfold stepW at h
  rw [hs, hn] at h
  split at h
  · rename_i p' v' hp'
    cases h
    have := stepP_sound hE hety hw he hp' (cjo_all hq).2
    exact fun K Q hK => this K Q fun X' u h1 h2 h3 h4 h5 => hK X' u h1 h2 h3 h4 h5
  · split at h
    · rename_i p' v' hp' nx' hh
      cases h
      exact stepH_sound hE hety hw he hh (cjo_all hq).2
    · cases h
end
end Go.Ab
/- The engine, part Ab: places where ways meet. -/
namespace Go.Ab
open Go
section
variable {P : Program} {E : Env} {X Y Z : Ctx} {G : Beg} {o : Oper} {a : Act}
theorem memN_mem {n : Nat} : ∀ {l : List Nat}, memN n l = true → n ∈ l
  | m :: r, h => by
    unfold memN at h
    split at h
    · rename_i e; rw [e]; exact List.mem_cons_self
    · exact List.mem_cons_of_mem _ (memN_mem h)
/-- A state in which nothing has a place: the places below n keep their names. -/
def bare (X : Ctx) (n : Nat) : Ctx := { X with hp := [], nx := n }
theorem bare_rel (hw : WRel X G) (n : Nat) : WRel (bare X n) G :=
  ⟨fun _ => trivial, fun _ _ => rfl, fun _ _ _ h => absurd rfl h, fun _ _ h => absurd rfl h, hw.rl, hw.kp, hw.r0, hw.rn, fun _ _ h => absurd rfl h⟩
/-- What is cleaned can be said without the places above n. -/
theorem cl0_rel {bx : List Nat} {n : Nat} (hb : ∀ id ∈ bx, id < n) {c : AV} {u : Value} {F : Nat → Prop} (h : RelA X c u F) : ∃ F' : Nat → Prop, (∀ b, F' b → F b) ∧ RelA (bare X n) (cl0 bx c) u F' := by
  have any : ∀ {v : Value}, ∃ F' : Nat → Prop, (∀ b, F' b → F b) ∧ RelA (bare X n) .any v F' := ⟨fun _ => False, fun _ h => h.elim, .pl _ _ _ (.any _) (fun _ h => h)⟩
  have pl : ∀ {c : AV} {v : Value}, RelV (bare X n) c v → ∃ F' : Nat → Prop, (∀ b, F' b → F b) ∧ RelA (bare X n) c v F' := fun h => ⟨fun _ => False, fun _ h => h.elim, .pl _ _ _ h (fun _ h => h)⟩
  cases h with
  | own q d v F h => exact ⟨F, fun _ h => h, .own q d u F h⟩
  | pl c v F h hF =>
    cases h with
    | int k n => exact pl (.int k n)
    | u8 b => exact pl (.u8 b)
    | bool b => exact pl (.bool b)
    | str l => exact pl (.str l)
    | val v => exact pl (.val _)
    | nilS => exact pl .nilS
    | dat d v h => exact pl (.dat d u h)
    | dep d i off g o h0 h1 hRg h => exact pl (.dep d i off g o h0 h1 hRg h)
    | ptr id off v hid h =>
      show ∃ F' : Nat → Prop, (∀ b, F' b → F b) ∧ RelA (bare X n) (if memN id bx then .ptr id off else .any) u F'
      split
      · rename_i hm
        exact pl (.ptr id off _ (hb id (memN_mem hm)) h)
      · exact any
    | _ => exact any
  | _ => exact any
theorem lst_rel {f : AV → AV} {n : Nat} (hf : ∀ {c : AV} {u : Value} {F : Nat → Prop}, RelA X c u F → ∃ F' : Nat → Prop, (∀ b, F' b → F b) ∧ RelA (bare X n) (f c) u F') {cs : List AV} {us : List Value} {fs : Nat → Nat → Prop} (hl : cs.length = us.length)
    (h : ∀ (j : Nat) (c : AV) (u : Value), cs[j]? = some c → us[j]? = some u → RelA X c u (fs j)) :
    ∃ fs' : Nat → Nat → Prop, (∀ j b, fs' j b → fs j b) ∧ ∀ (j : Nat) (c : AV) (u : Value), (cs.map f)[j]? = some c → us[j]? = some u → RelA (bare X n) c u (fs' j) := by
  have key : ∀ j, ∃ F' : Nat → Prop, (∀ b, F' b → fs j b) ∧ ∀ (c : AV) (u : Value), (cs.map f)[j]? = some c → us[j]? = some u → RelA (bare X n) c u F' := by
    intro j
    by_cases hj : j < cs.length
    · obtain ⟨F', h1, h2⟩ := hf (h j cs[j] (us[j]'(by omega)) (List.getElem?_eq_getElem hj) (List.getElem?_eq_getElem (by omega)))
      refine ⟨F', h1, fun c u hc hu => ?_⟩
      rw [List.getElem?_map, List.getElem?_eq_getElem hj] at hc
      rw [List.getElem?_eq_getElem (by omega)] at hu
      cases hc
      cases hu
      exact h2
    · refine ⟨fun _ => False, fun _ h => h.elim, fun c u hc => ?_⟩
      rw [List.getElem?_map, List.getElem?_eq_none (by omega)] at hc
      cases hc
  exact ⟨fun j => (key j).choose, fun j => (key j).choose_spec.1, fun j => (key j).choose_spec.2⟩
/-- A list of plain values, cleaned. -/
theorem lstV_rel {f : AV → AV} {n : Nat} (hf : ∀ {c : AV} {u : Value} {F : Nat → Prop}, RelA X c u F → ∃ F' : Nat → Prop, (∀ b, F' b → F b) ∧ RelA (bare X n) (f c) u F') {cs : List AV} {vs : Array Value}
    {fs : Nat → Nat → Prop} {F : Nat → Prop} (hl : cs.length = vs.size) (h : ∀ (j : Nat) (c : AV) (u : Value), cs[j]? = some c → vs[j]? = some u → RelA X c u (fs j)) (hd : ∀ j k b, j < cs.length → k < cs.length → fs j b → fs k b → j = k) (hF : ∀ j b, j < cs.length → fs j b → F b) :
    ∃ F' : Nat → Prop, (∀ b, F' b → F b) ∧ RelA (bare X n) (.agg (cs.map f)) (.agg vs) F' ∧ RelA (bare X n) (.tup (cs.map f)) (.tuple vs) F' := by
  obtain ⟨fs', h1, h2⟩ := lst_rel hf (us := vs.toList) (by simpa using hl) (fun j c u hj hu => h j c u hj (by simpa using hu))
  refine ⟨fun b => ∃ j, j < cs.length ∧ fs' j b, fun b ⟨j, hj, hb⟩ => hF j b hj (h1 j b hb), ?_, ?_⟩
  · exact .agg _ vs fs' _ (by simpa using hl) (fun j c u hj hu => h2 j c u hj (by simpa using hu)) (fun j k b hj hk e1 e2 => hd j k b (by simpa using hj) (by simpa using hk) (h1 j b e1) (h1 k b e2)) (fun b => by simp)
  · exact .tup _ vs fs' _ (by simpa using hl) (fun j c u hj hu => h2 j c u hj (by simpa using hu)) (fun j k b hj hk e1 e2 => hd j k b (by simpa using hj) (by simpa using hk) (h1 j b e1) (h1 k b e2)) (fun b => by simp)
theorem cl0_pl {bx : List Nat} {n : Nat} (hb : ∀ id ∈ bx, id < n) {c : AV} {u : Value} (h : RelV X c u) : RelV (bare X n) (cl0 bx c) u := by
  cases h with
  | int k n => exact .int k n
  | u8 b => exact .u8 b
  | bool b => exact .bool b
  | str l => exact .str l
  | val v => exact .val _
  | nilS => exact .nilS
  | dat d v h => exact .dat d u h
  | dep d i off g o h0 h1 hRg h => exact .dep d i off g o h0 h1 hRg h
  | ptr id off v hid h =>
    show RelV (bare X n) (if memN id bx then .ptr id off else .any) u
    split
    · rename_i hm
      exact .ptr id off _ (hb id (memN_mem hm)) h
    · exact .any _
  | _ => exact .any _
theorem cl1_rel {bx : List Nat} {n : Nat} (hb : ∀ id ∈ bx, id < n) {c : AV} {u : Value} {F : Nat → Prop} (h : RelA X c u F) : ∃ F' : Nat → Prop, (∀ b, F' b → F b) ∧ RelA (bare X n) (cl1 bx c) u F' := by
  by_cases hc : ∃ cs, c = .agg cs
  · obtain ⟨cs, rfl⟩ := hc
    cases h with
    | agg cs vs fs F hl h hd hF =>
      obtain ⟨F', h1, h2, _⟩ := lstV_rel (n := n) (fun h => cl0_rel hb h) hl h hd (fun j b hj hb => (hF b).2 ⟨j, hj, hb⟩)
      exact ⟨F', h1, h2⟩
    | pl c v F h hF =>
      cases h with
      | agg cs vs hl h =>
        obtain ⟨F', h1, h2, _⟩ := lstV_rel (n := n) (F := F) (fun h => cl0_rel hb h) hl (fun j c u hj hu => .pl c u (fun _ => False) (h j c u hj hu) fun _ h => h) (fun _ _ _ _ _ h => h.elim) (fun _ _ _ h => h.elim)
        exact ⟨F', h1, h2⟩
  · by_cases hfn : ∃ f fs cs, c = .fn f fs cs
    · obtain ⟨f, fs, cs, rfl⟩ := hfn
      cases h with
      | pl c v F h hF =>
        cases h with
        | fn f fs cs fv cv hf hc h1 h2 =>
          have go : ∀ (l : List AV) (vs : Array Value), (∀ (j : Nat) (c : AV) (u : Value), l[j]? = some c → vs[j]? = some u → RelV X c u) → ∀ (j : Nat) (c : AV) (u : Value), (l.map (cl0 bx))[j]? = some c → vs[j]? = some u → RelV (bare X n) c u := by
            intro l vs hr j c u hj hu
            rw [List.getElem?_map] at hj
            cases hcj : l[j]? with
            | none => rw [hcj] at hj; cases hj
            | some c0 => rw [hcj] at hj; cases hj; exact cl0_pl hb (hr j c0 u hcj hu)
          exact ⟨fun _ => False, fun _ h => h.elim, .pl _ _ _ (.fn f _ _ fv cv (by simpa using hf) (by simpa using hc) (go fs fv h1) (go cs cv h2)) (fun _ h => h)⟩
    · have e : cl1 bx c = cl0 bx c := by cases c <;> first | rfl | exact absurd ⟨_, rfl⟩ hc | exact absurd ⟨_, _, _, rfl⟩ hfn
      rw [e]
      exact cl0_rel hb h
theorem clV_rel {bx : List Nat} {n : Nat} (hb : ∀ id ∈ bx, id < n) {c : AV} {u : Value} {F : Nat → Prop} (h : RelA X c u F) : ∃ F' : Nat → Prop, (∀ b, F' b → F b) ∧ RelA (bare X n) (clV bx c) u F' := by
  by_cases hc : ∃ cs, c = .tup cs
  · obtain ⟨cs, rfl⟩ := hc
    cases h with
    | tup cs vs fs F hl h hd hF =>
      obtain ⟨F', h1, _, h2⟩ := lstV_rel (n := n) (fun h => cl1_rel hb h) hl h hd (fun j b hj hb => (hF b).2 ⟨j, hj, hb⟩)
      exact ⟨F', h1, h2⟩
    | pl c v F h hF =>
      cases h with
      | tup cs vs hl h =>
        obtain ⟨F', h1, _, h2⟩ := lstV_rel (n := n) (F := F) (fun h => cl1_rel hb h) hl (fun j c u hj hu => .pl c u (fun _ => False) (h j c u hj hu) fun _ h => h) (fun _ _ _ _ _ h => h.elim) (fun _ _ _ h => h.elim)
        exact ⟨F', h1, h2⟩
  · have e : clV bx c = cl1 bx c := by cases c <;> first | rfl | exact absurd ⟨_, rfl⟩ hc
    rw [e]
    exact cl1_rel hb h
/-- Taking, list by list. -/
theorem takeL_append : ∀ (a b : List AV) (hp : Hp), takeL (a ++ b) hp = ((takeL a hp).1 ++ (takeL b (takeL a hp).2).1, (takeL b (takeL a hp).2).2)
  | [], _, _ => rfl
  | v :: a, b, hp => by
    show ((take1 v hp).1 :: (takeL (a ++ b) (take1 v hp).2).1, (takeL (a ++ b) (take1 v hp).2).2) = _
    rw [takeL_append a b]
    rfl
theorem takeL_len : ∀ (a : List AV) (hp : Hp), (takeL a hp).1.length = a.length
  | [], _ => rfl
  | v :: a, hp => by simp [takeL, takeL_len a]
theorem takeLL_flat : ∀ (ls : List (List AV)) (hp : Hp), (takeLL ls hp).1.flatten = (takeL ls.flatten hp).1 ∧ (takeLL ls hp).2 = (takeL ls.flatten hp).2 ∧ (takeLL ls hp).1.map List.length = ls.map List.length
  | [], _ => ⟨rfl, rfl, rfl⟩
  | v :: ls, hp => by
    obtain ⟨h1, h2, h3⟩ := takeLL_flat ls (takeL v hp).2
    simp only [takeLL, List.flatten_cons, takeL_append, List.map_cons, takeL_len]
    exact ⟨by rw [h1], h2, by rw [h3]⟩
theorem bindL_append : ∀ (a b : List AV) (hp : Hp) (n : Nat), bindL (a ++ b) hp n = ((bindL a hp n).1 ++ (bindL b (bindL a hp n).2.1 (bindL a hp n).2.2).1, (bindL b (bindL a hp n).2.1 (bindL a hp n).2.2).2)
  | [], _, _, _ => rfl
  | v :: a, b, hp, n => by
    show ((bind1 v hp n).1 :: (bindL (a ++ b) (bind1 v hp n).2.1 (bind1 v hp n).2.2).1, (bindL (a ++ b) (bind1 v hp n).2.1 (bind1 v hp n).2.2).2) = _
    rw [bindL_append a b]
    rfl
theorem bindL_len : ∀ (a : List AV) (hp : Hp) (n : Nat), (bindL a hp n).1.length = a.length
  | [], _, _ => rfl
  | v :: a, hp, n => by simp [bindL, bindL_len a]
theorem bindLL_flat : ∀ (ls : List (List AV)) (hp : Hp) (n : Nat), (bindLL ls hp n).1.flatten = (bindL ls.flatten hp n).1 ∧ (bindLL ls hp n).2 = (bindL ls.flatten hp n).2 ∧ (bindLL ls hp n).1.map List.length = ls.map List.length
  | [], _, _ => ⟨rfl, rfl, rfl⟩
  | v :: ls, hp, n => by
    obtain ⟨h1, h2, h3⟩ := bindLL_flat ls (bindL v hp n).2.1 (bindL v hp n).2.2
    simp only [bindLL, List.flatten_cons, bindL_append, List.map_cons, bindL_len]
    exact ⟨by rw [h1], h2, by rw [h3]⟩
theorem takeVL_rel (hw : WRel X G) {cs : List AV} {us : List Value} (hl : cs.length = us.length) (hr : ∀ (j : Nat) (c : AV) (u : Value), cs[j]? = some c → us[j]? = some u → RelV X c u) : TakenL X G (takeVL cs X.hp) us :=
  takes_rel (f := takeV) (tl := takeVL) (fun _ => rfl) (fun _ _ _ => rfl) (fun hw _ _ h => takeV_rel hw h) hw hl hr
theorem bindVL_rel (hw : WRel X G) {cs : List AV} {us : List Value} {fs : Nat → Nat → Prop} (h : Apart X G cs us fs) : BoundL X G (bindVL cs X.hp X.nx) us (fun b => ∃ j, j < cs.length ∧ fs j b) :=
  binds_rel (f := bindV) (bl := bindVL) (fun _ _ => rfl) (fun _ _ _ _ => rfl) (fun hw _ _ _ h hF => bindV_rel hw h hF) hw h
end
end Go.Ab
/- The engine, part Ac: the state behind a place where ways meet. -/
namespace Go.Ab
open Go
section
variable {P : Program} {E : Env} {X Y Z : Ctx} {G : Beg} {o : Oper} {a : Act}
/-- Boxes, their blocks and cells. -/
inductive BoxL (X : Ctx) : List Nat → List (List AV) → List (Nat × Array Value) → Prop
  | nil : BoxL X [] [] []
  | cons (id : Nat) (t t' : TypeId) (cs : List AV) (b : Nat) (arr : Array Value) {ids : List Nat} {ls : List (List AV)} {bl : List (Nat × Array Value)} (hb : hgt X.hp id = .box t cs) (hv : (X.ob id).v = .pointer (some ⟨b, 0, none⟩))
      (hh : X.w.heap[b]? = some (.cells arr t' (0, 0))) (hl : arr.size = cs.length) (hr : ∀ (j : Nat) (c : AV) (u : Value), cs[j]? = some c → arr[j]? = some u → RelV X c u) (hF : ∀ n, (X.ob id).F n ↔ n = b) (h : BoxL X ids ls bl) : BoxL X (id :: ids) (cs :: ls) ((b, arr) :: bl)
theorem boxes_rel (hw : WRel X G) : ∀ {bx : List Nat} {ls : List (List AV)}, boxes bx X.hp = some ls → ∃ bl, BoxL X bx ls bl
  | [], ls, h => by cases h; exact ⟨[], .nil⟩
  | id :: ids, ls, h => by
    unfold boxes at h
    split at h
    · rename_i t cs hb
      split at h
      · rename_i l hl
        cases h
        obtain ⟨bl, hbl⟩ := boxes_rel hw hl
        have ho := hw.ob id
        unfold ObjOk at ho
        rw [hb] at ho
        obtain ⟨b, t', arr, h1, h2, h3, h4, h5⟩ := ho
        exact ⟨_, .cons id t t' cs b arr hb h1 h2 h3 h4 h5 hbl⟩
      · cases h
    · cases h
def flatV (bl : List (Nat × Array Value)) : List Value := (bl.map fun x => x.2.toList).flatten
theorem BoxL.flat {bx : List Nat} {ls : List (List AV)} {bl : List (Nat × Array Value)} (h : BoxL X bx ls bl) : ls.map List.length = bl.map (fun x => x.2.size) ∧ ls.flatten.length = (flatV bl).length ∧ ∀ (j : Nat) (c : AV) (u : Value), ls.flatten[j]? = some c → (flatV bl)[j]? = some u → RelV X c u := by
  induction h with
  | nil => exact ⟨rfl, rfl, fun j c u h => by simp at h⟩
  | cons id t t' cs b arr hb hv hh hl hr hF h ih =>
    obtain ⟨h0, h1, h2⟩ := ih
    refine ⟨by simp [h0, hl], ?_, fun j c u hj hu => ?_⟩
    · simp only [flatV, List.map_cons, List.flatten_cons, List.length_append, Array.length_toList] at h1 ⊢
      omega
    · simp only [flatV, List.map_cons, List.flatten_cons] at hj hu
      by_cases hlt : j < cs.length
      · rw [List.getElem?_append_left hlt] at hj
        rw [List.getElem?_append_left (by rw [Array.length_toList]; omega)] at hu
        exact hr j c u hj (by simpa using hu)
      · rw [List.getElem?_append_right (by omega)] at hj
        rw [List.getElem?_append_right (by rw [Array.length_toList]; omega), Array.length_toList, hl] at hu
        exact h2 _ c u hj hu
theorem BoxL.mem {bx : List Nat} {ls : List (List AV)} {bl : List (Nat × Array Value)} (h : BoxL X bx ls bl) : ∀ id ∈ bx, live X id := by
  induction h with
  | nil => intro id h; cases h
  | cons id t t' cs b arr hb hv hh hl hr hF h ih =>
    intro i hi
    cases hi with
    | head => exact box_live hb
    | tail _ hi => exact ih i hi
theorem take0_box {hp : Hp} {id : Nat} {t : TypeId} {cs : List AV} (h : hgt hp id = .box t cs) (v : AV) : hgt (take0 v hp).2 id = .box t cs := by
  cases v with
  | row i =>
    show hgt (match hgt hp i with | .row o d => (AV.own o d, hput i .dead hp) | _ => (.any, hp)).2 id = _
    cases hz : hgt hp i with
    | row q d =>
      show hgt (hput i .dead hp) id = _
      rw [hgt_hput]
      by_cases hi : i = id
      · subst hi; rw [hz] at h; cases h
      · rw [if_neg hi]; exact h
    | _ => exact h
  | _ => exact h
theorem takeC_box {id : Nat} {t : TypeId} {cs : List AV} : ∀ (l : List AV) {hp : Hp}, hgt hp id = .box t cs → hgt (takeC l hp).2 id = .box t cs
  | [], _, h => h
  | v :: l, _, h => takeC_box l (take0_box h v)
theorem take1_box {hp : Hp} {id : Nat} {t : TypeId} {cs : List AV} (h : hgt hp id = .box t cs) (v : AV) : hgt (take1 v hp).2 id = .box t cs := by
  cases v <;> first | exact takeC_box _ h | exact take0_box h _
theorem takeL_box {id : Nat} {t : TypeId} {cs : List AV} : ∀ (l : List AV) {hp : Hp}, hgt hp id = .box t cs → hgt (takeL l hp).2 id = .box t cs
  | [], _, h => h
  | v :: l, _, h => takeL_box l (take1_box h v)
/-- Contents that fit the cells of boxes. -/
inductive BoxS (Y : Ctx) : List (List AV) → List (Nat × Array Value) → Prop
  | nil : BoxS Y [] []
  | cons (cs : List AV) (b : Nat) (arr : Array Value) {ls : List (List AV)} {bl : List (Nat × Array Value)} (hl : arr.size = cs.length) (hr : ∀ (j : Nat) (c : AV) (u : Value), cs[j]? = some c → arr[j]? = some u → RelV Y c u) (h : BoxS Y ls bl) : BoxS Y (cs :: ls) ((b, arr) :: bl)
theorem BoxS.ext {ls : List (List AV)} {bl : List (Nat × Array Value)} (h : BoxS Y ls bl) (e : Ext Y Z) : BoxS Z ls bl := by
  induction h with
  | nil => exact .nil
  | cons cs b arr hl hr h ih => exact .cons cs b arr hl (fun j c u hj hu => (hr j c u hj hu).ext e) ih
theorem unflat : ∀ {ls : List (List AV)} {bl : List (Nat × Array Value)}, ls.map List.length = bl.map (fun x => x.2.size) → (∀ (j : Nat) (c : AV) (u : Value), ls.flatten[j]? = some c → (flatV bl)[j]? = some u → RelV Y c u) → BoxS Y ls bl
  | [], [], _, _ => .nil
  | [], _ :: _, h, _ => by cases h
  | _ :: _, [], h, _ => by cases h
  | cs :: ls, (b, arr) :: bl, h, hr => by
    simp only [List.map_cons, List.cons.injEq] at h
    obtain ⟨h1, h2⟩ := h
    refine .cons cs b arr h1.symm (fun j c u hj hu => hr j c u ?_ ?_) (unflat h2 fun j c u hj hu => hr (cs.length + j) c u ?_ ?_)
    · rw [List.flatten_cons, List.getElem?_append_left (List.getElem?_eq_some_iff.1 hj).1]; exact hj
    · simp only [flatV, List.map_cons, List.flatten_cons]
      rw [List.getElem?_append_left (by rw [Array.length_toList, ← h1]; exact (List.getElem?_eq_some_iff.1 hj).1)]
      simpa using hu
    · rw [List.flatten_cons, List.getElem?_append_right (by omega), Nat.add_sub_cancel_left]; exact hj
    · simp only [flatV, List.map_cons, List.flatten_cons]
      have hal : arr.toList.length = cs.length := by rw [Array.length_toList]; exact h1.symm
      rw [List.getElem?_append_right (by omega), hal, Nat.add_sub_cancel_left]
      exact hu
/-- The boxes are set. -/
theorem setBoxes_rel {old : Hp} : ∀ {bx : List Nat} {ls0 : List (List AV)} {bl : List (Nat × Array Value)} {ls : List (List AV)} {Y : Ctx}, BoxL X bx ls0 bl → nodupN bx = true → BoxS Y ls bl → WRel Y G → WRel X G → (∀ id ∈ bx, id < Y.nx ∧ (Y.ob id).v = (X.ob id).v ∧ ∃ t cs, hgt old id = .box t cs) → Y.w = X.w →
    (∀ x ∈ bl, Free Y G (fun n => n = x.1)) → ∃ Z, Z.hp = setBoxes bx ls old Y.hp ∧ Z.nx = Y.nx ∧ WRel Z G ∧ Same Y Z := by
  intro bx ls0 bl ls Y hbl
  induction hbl generalizing ls Y with
  | nil => intro _ hs hw _ _ _ _; cases hs; exact ⟨Y, rfl, rfl, hw, .refl Y⟩
  | @cons id t t' cs0 b arr ids ls0 bl hb hv hh hl0 hr0 hF0 hrest ih =>
    intro hnd hs hw hX hid hwX hfr
    obtain ⟨hnd1, hnd2⟩ := (Bool.and_eq_true _ _ ▸ hnd : _ ∧ _)
    cases hs with
    | cons cs _ _ hl hr hs =>
      obtain ⟨h1, h2, t1, c1, h3⟩ := hid id List.mem_cons_self
      have hold : id < Y.nx → (.pointer (some ⟨b, 0, none⟩) : Value) = (Y.ob id).v ∧ (Y.ob id).k = (Y.ob id).k := fun _ => ⟨by rw [h2, hv], rfl⟩
      have w1 := setBox_rel (t := t1) (t' := t') (arr := arr) (k := (Y.ob id).k) hw (Nat.le_refl _) h1 hold (hfr (b, arr) List.mem_cons_self) (by rw [hwX]; exact hh) hl hr
      have s1 := set_same (X := Y) (id := id) (ob := .box t1 cs) (i := ⟨.pointer (some ⟨b, 0, none⟩), fun n => n = b, (Y.ob id).k⟩) (Nat.le_refl _) hold
      have f1 : Foot Y (setC Y id (.box t1 cs) ⟨.pointer (some ⟨b, 0, none⟩), fun n => n = b, (Y.ob id).k⟩ Y.nx) (fun n => n = b) := set_foot
      generalize hY1 : setC Y id (.box t1 cs) ⟨.pointer (some ⟨b, 0, none⟩), fun n => n = b, (Y.ob id).k⟩ Y.nx = Y1 at w1 s1 f1
      have y1n : Y1.nx = Y.nx := by rw [← hY1]
      have y1h : Y1.hp = hput id (.box t1 cs) Y.hp := by rw [← hY1]
      have hne : ∀ x ∈ bl, x.1 ≠ b := by
        -- the blocks of other boxes are others
        have key : ∀ {ids : List Nat} {ls0 : List (List AV)} {bl : List (Nat × Array Value)}, BoxL X ids ls0 bl → memN id ids = false → ∀ x ∈ bl, x.1 ≠ b := by
          intro ids ls0 bl hbl
          induction hbl with
          | nil => intro _ x hx; cases hx
          | @cons id2 t2 t2' cs2 b2 arr2 ids2 ls2 bl2 hb2 hv2 hh2 hl2 hr2 hF2 hrest2 ih2 =>
            intro hm x hx
            unfold memN at hm
            split at hm
            · cases hm
            · rename_i hne
              cases hx with
              | head =>
                intro e
                have e : b2 = b := e
                exact hne (hX.dj id id2 b (box_live hb) (box_live hb2) ((hF0 b).2 rfl) ((hF2 b).2 e.symm))
              | tail _ hx => exact ih2 hm x hx
        exact key hrest (by simpa using hnd1)
      obtain ⟨Z, z1, z2, z3, z4⟩ := ih hnd2 (hs.ext s1.ext) w1 hX (fun i hi => by
        obtain ⟨g1, g2, g3⟩ := hid i (List.mem_cons_of_mem _ hi)
        exact ⟨by rw [y1n]; exact g1, by rw [(s1.ext.ob i g1).1]; exact g2, g3⟩) (by rw [s1.w]; exact hwX) (fun x hx => (hfr x (List.mem_cons_of_mem _ hx)).foot f1 s1.w s1.R fun n e1 e2 => hne x hx (e1.symm.trans e2))
      refine ⟨Z, ?_, by rw [z2, y1n], z3, s1.trans z4⟩
      rw [z1, y1h]
      show setBoxes ids _ old _ = setBoxes ids _ old (match hgt old id with | .box t _ => hput id (.box t cs) Y.hp | _ => Y.hp)
      rw [h3]
theorem gt_zipK {n : Nat} {r : Fr} : ∀ {ns : List Nat} {vs : List AV}, ns.length = vs.length → (∃ (i : Nat) (v : AV), ns[i]? = some n ∧ vs[i]? = some v ∧ gt (zipK ns vs r) n = v) ∨ gt (zipK ns vs r) n = gt r n
  | [], [], _ => .inr rfl
  | [], _ :: _, h => by cases h
  | _ :: _, [], h => by cases h
  | m :: ns, v :: vs, h => by
    show (∃ (i : Nat) (v' : AV), (m :: ns)[i]? = some n ∧ (v :: vs)[i]? = some v' ∧ (if m = n then v else gt (zipK ns vs r) n) = v') ∨ (if m = n then v else gt (zipK ns vs r) n) = gt r n
    by_cases hm : m = n
    · rw [if_pos hm]
      exact .inl ⟨0, v, by simp [hm], rfl, rfl⟩
    · rw [if_neg hm]
      rcases gt_zipK (n := n) (r := r) (ns := ns) (vs := vs) (by simpa using h) with ⟨i, v', h1, h2, h3⟩ | h1
      · exact .inl ⟨i + 1, v', by simpa using h1, by simpa using h2, h3⟩
      · exact .inr h1
theorem gt_keepK {fr : Fr} {n : Nat} : ∀ {ns : List Nat}, (n ∈ ns ∧ gt (keepK fr ns) n = gt fr n) ∨ gt (keepK fr ns) n = .any
  | [] => .inr rfl
  | m :: ns => by
    show (n ∈ m :: ns ∧ (if m = n then gt fr m else gt (keepK fr ns) n) = gt fr n) ∨ (if m = n then gt fr m else gt (keepK fr ns) n) = .any
    by_cases hm : m = n
    · rw [if_pos hm]; exact .inl ⟨by simp [hm], by rw [hm]⟩
    · rw [if_neg hm]
      rcases gt_keepK (fr := fr) (n := n) (ns := ns) with ⟨h1, h2⟩ | h
      · exact .inl ⟨List.mem_cons_of_mem _ h1, h2⟩
      · exact .inr h
theorem part_rel {X0 X' : Ctx} {s0 s' : St} {a0 a' : Act} {live keep bx : List Nat} {M : List AV → List (List AV) → Prop} (h0 : SRel X0 G s0 a0) (h' : SRel X' G s' a') (e : Ext X0 X') (hnd : nodupN bx = true) (hsome : (boxes bx s0.hp).isSome = true)
    (hk : ∀ t ∈ keep, a'.tmps.getD t undef = a0.tmps.getD t undef) (hm : meet live bx s' M) : ∃ vs bs X'', M vs bs ∧ X''.w = X'.w ∧ Ext X0 X'' ∧ SRel X'' G (part live keep bx s0 vs bs) a' := by
  -- the live values are taken
  let cs := live.map (gt s'.fr)
  let us := live.map (fun n => a'.tmps.getD n undef)
  have hlen : cs.length = us.length := by simp [cs, us]
  obtain ⟨fs, w1, s1, f1, a1, k1⟩ := takeVL_rel (X := X') (cs := cs) (us := us) h'.wr hlen (fun j c u hj hu => by
    simp only [cs, us, List.getElem?_map] at hj hu
    cases hn : live[j]? with
    | none => rw [hn] at hj; cases hj
    | some n => rw [hn] at hj hu; cases hj; cases hu; exact h'.fr n)
  have hm' : meetB bx (takeVL cs X'.hp).1 (takeVL cs X'.hp).2 M (boxes bx (takeVL cs X'.hp).2) := by rw [h'.hp]; exact hm
  generalize takeVL cs X'.hp = T at w1 s1 f1 a1 k1 hm'
  obtain ⟨tvs, hp1⟩ := T
  simp only at w1 s1 f1 a1 k1 hm'
  cases hbx : boxes bx hp1 with
  | none => rw [hbx] at hm'; exact hm'.elim
  | some ls =>
  rw [hbx] at hm'
  have hM : M (tvs.map (clV bx)) ((takeLL ls hp1).1.map fun l => l.map (cl1 bx)) := hm'
  generalize hX1 : ({ X' with hp := hp1 } : Ctx) = X1 at w1 s1 f1 a1
  have x1h : X1.hp = hp1 := by rw [← hX1]
  have x1o : X1.ob = X'.ob := by rw [← hX1]
  -- the boxes' contents are taken
  obtain ⟨bl, hbl⟩ := boxes_rel w1 (show boxes bx X1.hp = some ls by rw [x1h]; exact hbx)
  obtain ⟨hbl0, hbl1, hbl2⟩ := hbl.flat
  obtain ⟨gs, w2, s2, f2, a2, k2⟩ := takeL_rel (X := X1) w1 hbl1 hbl2
  obtain ⟨t1, t2, t3⟩ := takeLL_flat ls hp1
  rw [x1h] at w2 s2 f2 a2 k2
  have hbox2 : ∀ id t c, hgt X1.hp id = .box t c → hgt (takeL ls.flatten hp1).2 id = .box t c := fun id t c h => takeL_box _ (by rw [← x1h]; exact h)
  generalize hU : takeL ls.flatten hp1 = U at w2 s2 f2 a2 k2 t1 t2 hbox2
  obtain ⟨cvs, hp2⟩ := U
  simp only at w2 s2 f2 a2 k2 t1 t2 hbox2
  generalize hX2 : ({ X1 with hp := hp2 } : Ctx) = X2 at w2 s2 f2 a2
  have x2h : X2.hp = hp2 := by rw [← hX2]
  have x2o : X2.ob = X'.ob := by rw [← hX2]; exact x1o
  have x2w : X2.w = X'.w := s2.w.trans s1.w
  have a1' := a1.step s2 f2 fun _ _ _ _ h => h
  have hcross : ∀ i j b, i < tvs.length → j < cvs.length → fs i b → gs j b → False := fun i j b hi hj e1 e2 => by
    obtain ⟨id, l1, l2⟩ := k2 j b hj e2
    exact (a1.free i hi).nl id b l1 l2 e1
  -- nothing has a place
  have hbn : ∀ id ∈ bx, id < X0.nx := by
    have : ∀ {bx : List Nat}, (boxes bx s0.hp).isSome = true → ∀ id ∈ bx, id < X0.nx ∧ ∃ t cs, hgt s0.hp id = .box t cs := by
      intro bx
      induction bx with
      | nil => intro _ id h; cases h
      | cons i r ih =>
        intro hs id hi
        unfold boxes at hs
        split at hs
        · rename_i t cs hb
          split at hs
          · rename_i l hl
            cases hi with
            | head => exact ⟨live_lt h0.wr (by unfold Go.Ab.live; rw [h0.hp, hb]; simp), t, cs, hb⟩
            | tail _ hi => exact ih (by rw [hl]; rfl) id hi
          · cases hs
        · cases hs
    exact fun id hid => (this hsome id hid).1
  have hbox0 : ∀ id ∈ bx, ∃ t cs, hgt s0.hp id = .box t cs := by
    have : ∀ {bx : List Nat}, (boxes bx s0.hp).isSome = true → ∀ id ∈ bx, ∃ t cs, hgt s0.hp id = .box t cs := by
      intro bx
      induction bx with
      | nil => intro _ id h; cases h
      | cons i r ih =>
        intro hs id hi
        unfold boxes at hs
        split at hs
        · rename_i t cs hb
          split at hs
          · rename_i l hl
            cases hi with
            | head => exact ⟨t, cs, hb⟩
            | tail _ hi => exact ih (by rw [hl]; rfl) id hi
          · cases hs
        · cases hs
    exact this hsome
  have wb := bare_rel w2 X0.nx
  obtain ⟨fs', c1, c2⟩ := lst_rel (n := X0.nx) (fun h => clV_rel hbn h) a1'.len a1'.rel
  obtain ⟨gs', d1, d2⟩ := lst_rel (n := X0.nx) (fun h => cl1_rel hbn h) a2.len a2.rel
  have hfree : ∀ {F : Nat → Prop}, Free X2 G F → Free (bare X2 X0.nx) G F := fun h => ⟨h.nr, fun _ _ h => absurd rfl h, h.lt, h.ok⟩
  have ap1 : Apart (bare X2 X0.nx) G (tvs.map (clV bx)) us fs' := ⟨by rw [List.length_map]; exact a1'.len, c2, fun i j b hi hj e1 e2 => a1'.dis i j b (by simpa using hi) (by simpa using hj) (c1 i b e1) (c1 j b e2), fun i hi => hfree ((a1'.free i (by simpa using hi)).sub (c1 i))⟩
  have ap2 : Apart (bare X2 X0.nx) G (cvs.map (cl1 bx)) (flatV bl) gs' := ⟨by rw [List.length_map]; exact a2.len, d2, fun i j b hi hj e1 e2 => a2.dis i j b (by simpa using hi) (by simpa using hj) (d1 i b e1) (d1 j b e2), fun i hi => hfree ((a2.free i (by simpa using hi)).sub (d1 i))⟩
  obtain ⟨Y1, y1, y2, y3, y4, y5, y6, y7⟩ := bindVL_rel wb ap1
  have ap2' := ap2.step y4 y5 fun j b hj e1 ⟨i, hi, e2⟩ => hcross i j b (by simpa using hi) (by simpa using hj) (c1 i b e2) (d1 j b e1)
  obtain ⟨Y2, z1, z2, z3, z4, z5, z6, z7⟩ := bindL_rel y3 ap2'
  rw [y1, y2] at z1 z2 z6 z7
  change Y2.hp = (bindL (cvs.map (cl1 bx)) (bindVL (tvs.map (clV bx)) [] X0.nx).2.1 (bindVL (tvs.map (clV bx)) [] X0.nx).2.2).2.1 at z1
  change Y2.nx = (bindL (cvs.map (cl1 bx)) (bindVL (tvs.map (clV bx)) [] X0.nx).2.1 (bindVL (tvs.map (clV bx)) [] X0.nx).2.2).2.2 at z2
  change (bindL (cvs.map (cl1 bx)) (bindVL (tvs.map (clV bx)) [] X0.nx).2.1 (bindVL (tvs.map (clV bx)) [] X0.nx).2.2).1.length = _ at z6
  change ∀ (j : Nat) (c : AV) (u : Value), (bindL (cvs.map (cl1 bx)) (bindVL (tvs.map (clV bx)) [] X0.nx).2.1 (bindVL (tvs.map (clV bx)) [] X0.nx).2.2).1[j]? = some c → _ at z7
  change (bindVL (tvs.map (clV bx)) [] X0.nx).1.length = _ at y6
  change ∀ (j : Nat) (c : AV) (u : Value), (bindVL (tvs.map (clV bx)) [] X0.nx).1[j]? = some c → _ at y7
  -- the boxes are set
  let bs := (takeLL ls hp1).1.map fun l => l.map (cl1 bx)
  have hbsf : bs.flatten = cvs.map (cl1 bx) := by
    show ((takeLL ls hp1).1.map fun l => l.map (cl1 bx)).flatten = _
    rw [← List.map_flatten, t1]
  have hbsl : bs.map List.length = bl.map (fun x => x.2.size) := by
    show ((takeLL ls hp1).1.map fun l => l.map (cl1 bx)).map List.length = _
    rw [List.map_map, ← hbl0, ← t3]
    congr 1
    funext l
    simp
  generalize hB1 : (bindVL (tvs.map (clV bx)) [] X0.nx) = B1 at z1 z2 z6 z7 y6 y7
  obtain ⟨q1, q2, q3⟩ := bindLL_flat bs B1.2.1 B1.2.2
  rw [hbsf] at q1 q2
  have hS : BoxS Y2 (bindLL bs B1.2.1 B1.2.2).1 bl := unflat (by rw [q3, hbsl]) (fun j c u hj hu => z7 j c u (by rw [← q1]; exact hj) hu)
  have sY : Same (bare X2 X0.nx) Y2 := y4.trans z4
  have hblX2 : BoxL X2 bx (ls) bl := by
    have : ∀ {bx : List Nat} {ls : List (List AV)} {bl : List (Nat × Array Value)}, BoxL X1 bx ls bl → BoxL X2 bx ls bl := by
      intro bx ls bl h
      induction h with
      | nil => exact .nil
      | cons id t t' cs b arr hb hv hh hl hr hF h ih => exact .cons id t t' cs b arr (by rw [x2h]; exact hbox2 _ _ _ hb) (by rw [x2o, ← x1o]; exact hv) (by rw [s2.w]; exact hh) hl (fun j c u hj hu => (hr j c u hj hu).ext s2.ext) (by rw [x2o, ← x1o]; exact hF) ih
    exact this hbl
  have hfrB : ∀ x ∈ bl, Free Y2 G (fun n => n = x.1) := by
    have key : ∀ {bx : List Nat} {ls : List (List AV)} {bl : List (Nat × Array Value)}, BoxL X2 bx ls bl → ∀ x ∈ bl, ∃ id, Go.Ab.live X2 id ∧ (X2.ob id).F x.1 := by
      intro bx ls bl h
      induction h with
      | nil => intro x hx; cases hx
      | cons id t t' cs b arr hb hv hh hl hr hF h ih =>
        intro x hx
        cases hx with
        | head => exact ⟨id, box_live hb, (hF b).2 rfl⟩
        | tail _ hx => exact ih x hx
    intro x hx
    obtain ⟨id, l1, l2⟩ := key hblX2 x hx
    have hfx : Free (bare X2 X0.nx) G (fun n => n = x.1) := ⟨fun b hb => by rw [hb]; exact w2.dr id _ l1 l2, fun _ _ h => absurd rfl h, fun b hb => by rw [hb]; exact live_lt_heap w2 l1 l2, fun b hb => by rw [hb]; exact w2.fn id _ l1 l2⟩
    refine (hfx.foot y5 y4.w y4.R fun b hb ⟨i, hi, e2⟩ => ?_).foot z5 z4.w z4.R fun b hb ⟨j, hj, e2⟩ => ?_
    · exact (a1'.free i (by simpa using hi)).nl id b l1 (by rw [hb]; exact l2) (c1 i b e2)
    · exact (a2.free j (by simpa using hj)).nl id b l1 (by rw [hb]; exact l2) (d1 j b e2)
  have hn2 : X0.nx ≤ Y2.nx := sY.ext.nx
  obtain ⟨Z, r1, r2, r3, r4⟩ := setBoxes_rel (X := X2) (old := s0.hp) hblX2 hnd hS z3 w2 (fun id hid => ⟨Nat.lt_of_lt_of_le (hbn id hid) hn2, (sY.ext.ob id (hbn id hid)).1, hbox0 id hid⟩) sY.w hfrB
  have eb : Ext X0 (bare X2 X0.nx) := ⟨(s2.ext.ety.trans s1.ext.ety).trans e.ety, Nat.le_refl _, fun b hb => by show X2.R b; rw [s2.R, s1.R]; exact e.R b hb, fun b hb hs => by show X2.w.heap[b]? = _; rw [x2w]; exact e.mem b hb hs,
    fun id hid => by show (X2.ob id).v = _ ∧ (X2.ob id).k = _; rw [x2o]; exact e.ob id hid⟩
  have eZ : Ext X0 Z := Ext.trans (X := X0) (Y := bare X2 X0.nx) (Z := Z) (fun b hb _ => wb.rl b (eb.R b hb)) eb (sY.trans r4).ext
  refine ⟨_, _, Z, hM, ((sY.trans r4).w).trans x2w, eZ, ?_⟩
  have hnx0 : s0.nx = X0.nx := h0.nx.symm
  have hpart : part live keep bx s0 (tvs.map (clV bx)) bs = ⟨zipK live B1.1 (keepK s0.fr keep), setBoxes bx (bindLL bs B1.2.1 B1.2.2).1 s0.hp (bindLL bs B1.2.1 B1.2.2).2.1, (bindLL bs B1.2.1 B1.2.2).2.2⟩ := by
    unfold part
    rw [hnx0, hB1]
  show SRel Z G (part live keep bx s0 (tvs.map (clV bx)) bs) a'
  rw [hpart]
  refine ⟨?_, ?_, h'.sz, h'.df, fun n => ?_, r3⟩
  · rw [r1, z1, ← q2]
  · rw [r2, z2, ← q2]
  · have hl1 : live.length = B1.1.length := by rw [y6]; simp [us]
    show RelV Z (gt (zipK live B1.1 (keepK s0.fr keep)) n) _
    rcases gt_zipK (n := n) (r := keepK s0.fr keep) hl1 with ⟨i, v, i1, i2, i3⟩ | h
    · rw [i3]
      have := y7 i v (a'.tmps.getD n undef) i2 (by simp only [us, List.getElem?_map, i1]; rfl)
      exact this.ext (z4.trans r4).ext
    · rw [h]
      rcases gt_keepK (fr := s0.fr) (n := n) (ns := keep) with ⟨h1, h2⟩ | h2
      · rw [h2, hk n h1]
        exact (h0.fr n).ext eZ
      · rw [h2]
        exact .any _
end
end Go.Ab
/- The engine, part Ad: what the verification condition means of the code. -/
namespace Go.Ab
open Go
section
variable {P : Program} {E : Env} {X Y Z : Ctx} {G : Beg} {o : Oper} {a : Act}
/-- A loop, its rounds counted down by a number that the state does not show. -/
theorem wp_loopI {Q : Exit → Act → World → Prop} {a : Act} {w : World} {c : Code} (I : Nat → Act → World → Prop) (n : Nat) (h₀ : I n a w)
    (round : ∀ n a w, I n a w → c.wp P (Exit.then (fun a' w' => ∃ m, m < n ∧ I m a' w') Q) a w) : (Code.loop c).wp P Q a w := by
  intro b k cs
  have key : ∀ n a w, I n a w → ∃ e a' w', Q e a' w' ∧ Arrives P (lone (b.at a (.code c :: .inLoop c :: k)) cs w) b k cs e a' w' := by
    intro n
    induction n using Nat.strongRecOn with
    | _ n ih =>
      intro a w hI
      obtain ⟨e, a₁, w₁, hq, harr⟩ := round n a w hI b (.inLoop c :: k) cs
      cases e with
      | normal =>
        obtain ⟨m, hlt, hI₁⟩ := hq
        obtain ⟨e₂, a₂, w₂, hq₂, harr₂⟩ := ih m hlt a₁ w₁ hI₁
        exact ⟨e₂, a₂, w₂, hq₂, .of_steps (Steps.trans harr (.one step_inLoop)) harr₂⟩
      | exit id => exact ⟨_, a₁, w₁, hq, .pass (x := .inLoop c) rfl (fun _ _ => .inl (by simp)) harr⟩
      | goto l => exact ⟨_, a₁, w₁, hq, .pass (x := .inLoop c) rfl (fun _ _ => .inl (by simp)) harr⟩
      | ret => exact ⟨_, a₁, w₁, hq, .pass (x := .inLoop c) rfl (fun _ _ => .inl (by simp)) harr⟩
      | panic ch => exact ⟨_, a₁, w₁, hq, .pass (x := .inLoop c) rfl (fun _ _ => .inl (by simp)) harr⟩
      | outgrown => exact ⟨_, a₁, w₁, hq, .pass (x := .inLoop c) rfl (fun _ _ => .inl (by simp)) harr⟩
  obtain ⟨e, a', w', hq, harr⟩ := key n a w h₀
  exact ⟨e, a', w', hq, .of_steps (.one step_loop) harr⟩
/-- What is still to be done, as the machine sees it. -/
inductive MIt where
  | code (c : Code)
  | ops (all os : List Oper)
  | inB (id : Nat)
  | stop (keep : List Nat) (vals : Nat → Value) (X0 : Ctx) (C : Act → World → Prop)
abbrev Go2 := (Act → World → Prop) × (Nat → Act → World → Prop)
def mkQ (Fin : Act → World → Prop) (p : Go2) : Exit → Act → World → Prop
  | .normal, a, w => p.1 a w
  | .exit id, a, w => p.2 id a w
  | .ret, a, w => Fin a w
  | _, _, _ => False
def sem (P : Program) (Fin : Act → World → Prop) : List MIt → Go2
  | [] => (Fin, fun _ _ _ => False)
  | .code c :: k => (fun a w => c.wp P (mkQ Fin (sem P Fin k)) a w, (sem P Fin k).2)
  | .ops all os :: k => (fun a w => wpList P all.toArray (mkQ Fin (sem P Fin k)) os a w, (sem P Fin k).2)
  | .inB j :: k => ((sem P Fin k).1, fun id a w => if id = j then (sem P Fin k).1 a w else (sem P Fin k).2 id a w)
  | .stop _ _ _ C :: k => (C, (sem P Fin k).2)
def Kept : List MIt → Ctx → Act → Prop
  | [], _, _ => True
  | .stop keep vals X0 _ :: k, X, a => Ext X0 X ∧ (∀ t ∈ keep, a.tmps.getD t undef = vals t) ∧ Kept k X a
  | _ :: k, X, a => Kept k X a
def KeepIn : List MIt → Nat → Prop
  | [], _ => False
  | .stop keep _ _ _ :: k, t => t ∈ keep ∨ KeepIn k t
  | _ :: k, t => KeepIn k t
def Safe (N : Nat) : List MIt → Prop
  | [] => True
  | .code c :: k => okC c = true ∧ (∀ d ∈ wr c, d < N ∧ ¬ KeepIn k d) ∧ Safe N k
  | .ops _ os :: k => (∀ d ∈ wrO os, d < N ∧ ¬ KeepIn k d) ∧ Safe N k
  | _ :: k => Safe N k
def Match (G : Beg) : List It → List MIt → Prop
  | [], [] => True
  | .code c :: k, .code c' :: m => c = c' ∧ Match G k m
  | .ops all os :: k, .ops all' os' :: m => all = all' ∧ os = os' ∧ Match G k m
  | .inB j :: k, .inB j' :: m => j = j' ∧ Match G k m
  | .back live bx I n :: k, .stop keep vals X0 C :: m => (∀ i, i < n → ∀ s X a, SRel X G s a → Kept (.stop keep vals X0 C :: m) X a → meet live bx s (I i) → C a X.w) ∧ Match G k m
  | .join live bx M :: k, .stop keep vals X0 C :: m => (∀ s X a, SRel X G s a → Kept (.stop keep vals X0 C :: m) X a → meet live bx s M → C a X.w) ∧ Match G k m
  | _, _ => False
theorem Kept.ext : ∀ {m : List MIt}, Kept m X a → WRel X G → Ext X Y → Kept m Y a
  | [], _, _, _ => trivial
  | .stop keep vals X0 _ :: m, h, hw, e => ⟨Ext.trans (fun b hb _ => hw.rl b (h.1.R b hb)) h.1 e, h.2.1, Kept.ext (m := m) h.2.2 hw e⟩
  | .code _ :: m, h, hw, e => Kept.ext (m := m) h hw e
  | .ops _ _ :: m, h, hw, e => Kept.ext (m := m) h hw e
  | .inB _ :: m, h, hw, e => Kept.ext (m := m) h hw e
theorem put_getD {dst : Option Tmp} {u : Value} {t : Nat} (h : ∀ d, dst = some d → d ≠ t) : (a.put dst u).tmps.getD t undef = a.tmps.getD t undef := by
  cases dst with
  | none => rfl
  | some d =>
    show (a.tmps.setIfInBounds d u).getD t undef = _
    simp only [Array.getD_eq_getD_getElem?, Array.getElem?_setIfInBounds]
    rw [if_neg (h d rfl)]
theorem Kept.put {dst : Option Tmp} {u : Value} : ∀ {m : List MIt}, Kept m X a → (∀ d, dst = some d → ¬ KeepIn m d) → Kept m X (a.put dst u)
  | [], _, _ => trivial
  | .stop keep vals X0 _ :: m, h, hd => ⟨h.1, fun t ht => by rw [put_getD fun d e he => hd d e (.inl (by rw [he]; exact ht))]; exact h.2.1 t ht, Kept.put (m := m) h.2.2 fun d e hk => hd d e (.inr hk)⟩
  | .code _ :: m, h, hd => Kept.put (m := m) h hd
  | .ops _ _ :: m, h, hd => Kept.put (m := m) h hd
  | .inB _ :: m, h, hd => Kept.put (m := m) h hd
/-- Out of a block. -/
theorem exit_match {Fin : Act → World → Prop} {N id : Nat} : ∀ {k k' : List It} {m : List MIt}, exitTo' id k = some k' → Match G k m → Safe N m → ∃ m', Match G k' m' ∧ Safe N m' ∧ (∀ a w, (sem P Fin m').1 a w → (sem P Fin m).2 id a w) ∧ (∀ X a, Kept m X a → Kept m' X a) := by
  intro k
  induction k with
  | nil => intro k' m h; cases h
  | cons i k ih =>
    intro k' m h hm hs
    cases i with
    | inB j =>
      cases m with
      | nil => exact hm.elim
      | cons x m =>
        cases x <;> first | exact hm.elim | skip
        rename_i j'
        obtain ⟨rfl, hm⟩ := hm
        simp only [exitTo'] at h
        split at h
        · rename_i e
          cases h
          exact ⟨m, hm, hs, fun a w hh => by show if id = j then _ else _; rw [if_pos e.symm]; exact hh, fun X a h => h⟩
        · rename_i e
          obtain ⟨m', h1, h2, h3, h4⟩ := ih h hm hs
          exact ⟨m', h1, h2, fun a w hh => by show if id = j then _ else _; rw [if_neg fun e' => e e'.symm]; exact h3 a w hh, h4⟩
    | code c =>
      cases m with
      | nil => exact hm.elim
      | cons x m =>
        cases x <;> first | exact hm.elim | skip
        obtain ⟨_, hm⟩ := hm
        obtain ⟨m', h1, h2, h3, h4⟩ := ih (show exitTo' id k = some k' from h) hm hs.2.2
        exact ⟨m', h1, h2, h3, h4⟩
    | ops all os =>
      cases m with
      | nil => exact hm.elim
      | cons x m =>
        cases x <;> first | exact hm.elim | skip
        obtain ⟨_, _, hm⟩ := hm
        obtain ⟨m', h1, h2, h3, h4⟩ := ih (show exitTo' id k = some k' from h) hm hs.2
        exact ⟨m', h1, h2, h3, h4⟩
    | back live bx I n =>
      cases m with
      | nil => exact hm.elim
      | cons x m =>
        cases x <;> first | exact hm.elim | skip
        obtain ⟨_, hm⟩ := hm
        obtain ⟨m', h1, h2, h3, h4⟩ := ih (show exitTo' id k = some k' from h) hm hs
        exact ⟨m', h1, h2, h3, fun X a h => h4 X a h.2.2⟩
    | join live bx M =>
      cases m with
      | nil => exact hm.elim
      | cons x m =>
        cases x <;> first | exact hm.elim | skip
        obtain ⟨_, hm⟩ := hm
        obtain ⟨m', h1, h2, h3, h4⟩ := ih (show exitTo' id k = some k' from h) hm hs
        exact ⟨m', h1, h2, h3, fun X a h => h4 X a h.2.2⟩
/-- The guard is as the engine reckons. -/
theorem gval_wanted {s : St} (h : SRel X G s a) {all : List Oper} {j : Nat} {want g : Bool} (hg : gval all s.fr j want = some g) : (yielded all.toArray a.tmps j == some want) = g := by
  unfold gval at hg
  split at hg
  rotate_left
  · cases hg
  rename_i d hd
  have hfr := h.fr d
  have hy : yielded all.toArray a.tmps j = match a.tmps[d]? with | some (.bool b) => some b | _ => none := by
    unfold yielded
    rw [show (all.toArray[j]?).bind (·.dst) = some d by rw [List.getElem?_toArray]; exact hd]
    rfl
  have hb : ∀ b, a.tmps.getD d undef = .bool b → yielded all.toArray a.tmps j = some b := by
    intro b hh
    rw [hy]
    rw [Array.getD_eq_getD_getElem?] at hh
    cases hz : a.tmps[d]? with
    | none => rw [hz] at hh; cases hh
    | some v => rw [hz] at hh; cases hh; rfl
  have hu : a.tmps.getD d undef = undef → yielded all.toArray a.tmps j = none := by
    intro hh
    rw [hy]
    rw [Array.getD_eq_getD_getElem?] at hh
    cases hz : a.tmps[d]? with
    | none => rfl
    | some v => rw [hz] at hh; cases hh; rfl
  split at hg
  · rename_i b hb'
    cases hg
    rw [hb'] at hfr
    rw [hb b hfr.bool_inv]
    cases b <;> cases want <;> rfl
  · rename_i g0 b hb'
    cases hg
    rw [hb'] at hfr
    generalize a.tmps.getD d undef = v at hfr hb hu
    cases hfr with
    | opt _ _ _ h1 h2 =>
      cases g0 with
      | true =>
        rw [hb b (h1 rfl).bool_inv]
        cases b <;> cases want <;> rfl
      | false => rw [hu (h2 rfl)]; rfl
  · cases hg
theorem opReq_all {fr : Fr} : ∀ {l : List Operand}, (∀ q, opReq fr l = some q → q) → ∀ x ∈ l, ∀ q, (ev fr x).req = some q → q
  | y :: l, h, x, hx => by
    have ⟨h1, h2⟩ := cjo_all (a := (ev fr y).req) (b := opReq fr l) h
    cases hx with
    | head => exact h1
    | tail _ hx => exact opReq_all h2 x hx
theorem evx_rel {s : St} (h : SRel X G s a) {op : Op} (hq : ∀ q, reqx op s.fr = some q → q) : ∀ x ∈ op.operands.toList, RelV X (evx op s.fr x) (a.eval x) := by
  intro x hx
  unfold evx
  cases hp : isPick op with
  | true => exact h.ev x
  | false =>
    show RelV X (ev s.fr x).un _
    refine (h.ev x).un (opReq_all (fun q e => hq q ?_) x hx)
    unfold reqx
    rw [hp]
    exact e
end
end Go.Ab
/- The engine, part Ak: a region that draws its order: whatever the order, it comes to what the order of the text comes to. -/
namespace Go.Ab
open Go
section
variable {P : Program} {E : Env} {G : Beg} {all : List Oper} {hs : List Nat}
theorem memN_iff {n : Nat} : ∀ {l : List Nat}, memN n l = true ↔ n ∈ l
  | [] => by simp [memN]
  | m :: r => by
    by_cases h : n = m
    · simp [memN, h]
    · simp [memN, h, memN_iff (l := r)]
theorem nodupN_iff : ∀ {l : List Nat}, nodupN l = true → l.Nodup
  | [], _ => .nil
  | n :: r, h => by
    simp only [nodupN, Bool.and_eq_true, Bool.not_eq_true'] at h
    refine List.nodup_cons.2 ⟨fun hm => ?_, nodupN_iff h.2⟩
    rw [← memN_iff] at hm
    rw [hm] at h
    cases h.1
theorem lenF_le {l : List Nat} {f g : Nat → Bool} (h : ∀ x ∈ l, f x = true → g x = true) : lenF l f ≤ lenF l g := by
  unfold lenF
  rw [← List.countP_eq_length_filter, ← List.countP_eq_length_filter]
  exact List.countP_mono_left h
theorem lenF_congr {l : List Nat} {f g : Nat → Bool} (h : ∀ x ∈ l, f x = g x) : lenF l f = lenF l g := by
  unfold lenF
  rw [List.filter_congr h]
theorem lenF_add {l : List Nat} (hn : l.Nodup) {f g : Nat → Bool} {i : Nat} (hi : i ∈ l) (hf : f i = false) (hg : g i = true) (h : ∀ x ∈ l, x ≠ i → f x = g x) : lenF l g = lenF l f + 1 := by
  unfold lenF
  induction l with
  | nil => cases hi
  | cons x l ih =>
    have hx := List.nodup_cons.1 hn
    by_cases e : x = i
    · subst e
      rw [List.filter_cons_of_pos hg, List.filter_cons_of_neg (by rw [hf]; simp)]
      have : l.filter g = l.filter f := List.filter_congr fun y hy => (h y (List.mem_cons_of_mem _ hy) fun e => hx.1 (e ▸ hy)).symm
      rw [this]
      rfl
    · have hi' : i ∈ l := by cases hi with | head => exact absurd rfl e | tail _ h => exact h
      have := ih hx.2 hi' fun y hy => h y (List.mem_cons_of_mem _ hy)
      have hxe := h x List.mem_cons_self e
      cases hgx : g x with
      | true => rw [List.filter_cons_of_pos hgx, List.filter_cons_of_pos (by rw [hxe, hgx]), List.length_cons, List.length_cons, this]
      | false => rw [List.filter_cons_of_neg (by rw [hgx]; simp), List.filter_cons_of_neg (by rw [hxe, hgx]; simp), this]
abbrev cntH (hs : List Nat) (i : Nat) : Nat := lenF hs fun h => decide (h < i)
theorem cntH_succ (hn : hs.Nodup) (i : Nat) : cntH hs (i + 1) = cntH hs i + if memN i hs then 1 else 0 := by
  by_cases h : i ∈ hs
  · rw [if_pos (memN_iff.2 h)]
    exact lenF_add hn h (by simp) (by simp) fun x _ hx => by simp; omega
  · rw [if_neg (by rw [memN_iff]; exact h)]
    exact lenF_congr fun x hx => by
      have : x ≠ i := fun e => h (e ▸ hx)
      simp
      omega
def Fv (all : List Oper) (V : Nat → AV) (fr : Fr) (D : Nat → Bool) (t : Nat) : AV :=
  match wIdx all t with
  | some k => if D k then V k else gt fr t
  | none => gt fr t
def recV (RS : List Rec) (k : Nat) : AV := match RS[k]? with
  | some r => r.V
  | none => .any
/-- What is known of an operation. -/
def OpFact (E : Env) (all : List Oper) (hs : List Nat) (H0 : List (Hp × Nat)) (V : Nat → AV) (fr0 : Fr) (k : Nat) (o : Oper) (r : Rec) : Prop :=
  (∀ t, gt r.s.fr t = Fv all V fr0 (fun j => decide (j < k)) t) ∧ H0[cntH hs k]? = some (r.s.hp, r.s.nx) ∧
  ((memN k hs = false ∧ o.guard = none ∧ r.g = none ∧ stepP E (bare' o) (ev r.s.fr) r.s.hp = some (r.p, r.v) ∧ (∀ q, r.p = some q → q)) ∨
   (memN k hs = false ∧ ∃ j want g, o.guard = some (j, want) ∧ r.g = some g ∧ gval all r.s.fr j want = some g ∧ stepP E (bare' o) (evx o.op r.s.fr) r.s.hp = some (r.p, r.v) ∧ (g = true → ∀ q, cjo (reqx o.op r.s.fr) r.p = some q → q)) ∨
   (memN k hs = true ∧ o.guard = none ∧ r.g = none ∧ ∃ hp nx, H0[cntH hs k + 1]? = some (hp, nx) ∧ stepH E (bare' o) (ev r.s.fr) r.s.hp r.s.nx = some (r.p, r.v, hp, nx) ∧ (∀ q, r.p = some q → q)))
theorem wIdx_lt : ∀ {all : List Oper} {t k : Nat}, wIdx all t = some k → ∃ o, all[k]? = some o ∧ o.dst = some t
  | [], t, k, h => by cases h
  | o :: os, t, k, h => by
    simp only [wIdx] at h
    split at h
    · rename_i hd
      cases h
      exact ⟨o, rfl, hd⟩
    · cases hw : wIdx os t with
      | none => rw [hw] at h; cases h
      | some j =>
        rw [hw] at h
        cases h
        obtain ⟨o', h1, h2⟩ := wIdx_lt hw
        exact ⟨o', by simpa using h1, h2⟩
theorem put1_hp {s : St} {d : Option Tmp} {v : AV} {hp : Hp} {nx : Nat} : (put1 s d v hp nx).hp = hp := by cases d <;> rfl
theorem put1_nx {s : St} {d : Option Tmp} {v : AV} {hp : Hp} {nx : Nat} : (put1 s d v hp nx).nx = nx := by cases d <;> rfl
theorem DT.facts (hn : hs.Nodup) (hlt : ∀ h ∈ hs, h < all.length) (hu : ∀ (k : Nat) (o : Oper) (d : Nat), all[k]? = some o → o.dst = some d → wIdx all d = some k) {i os s rs hps s'} (h : DT E all hs i os s rs hps s') : ∀ (H0 : List (Hp × Nat)) (RS : List Rec) (fr0 : Fr),
    all.drop i = os → RS.drop i = rs → H0[cntH hs i]? = some (s.hp, s.nx) → H0.drop (cntH hs i + 1) = hps → (∀ t, gt s.fr t = Fv all (recV RS) fr0 (fun j => decide (j < i)) t) →
    (∀ k o, i ≤ k → all[k]? = some o → ∃ r, RS[k]? = some r ∧ OpFact E all hs H0 (recV RS) fr0 k o r) ∧
    (∀ t, gt s'.fr t = Fv all (recV RS) fr0 (fun _ => true) t) ∧ H0[cntH hs all.length]? = some (s'.hp, s'.nx) := by
  have hput : ∀ {i : Nat} {o : Oper} {s : St} {v : AV} {hp : Hp} {nx : Nat} {RS : List Rec} {fr0 : Fr}, all[i]? = some o → recV RS i = v → (∀ t, gt s.fr t = Fv all (recV RS) fr0 (fun j => decide (j < i)) t) →
      ∀ t, gt (put1 s o.dst v hp nx).fr t = Fv all (recV RS) fr0 (fun j => decide (j < i + 1)) t := by
    intro i o s v hp nx RS fr0 ho hv hf t
    have same : ∀ t, o.dst ≠ some t → Fv all (recV RS) fr0 (fun j => decide (j < i + 1)) t = Fv all (recV RS) fr0 (fun j => decide (j < i)) t := by
      intro t ht
      unfold Fv
      cases hw : wIdx all t with
      | none => rfl
      | some k =>
        have : k ≠ i := fun e => by
          subst e
          obtain ⟨o', h1, h2⟩ := wIdx_lt hw
          rw [ho] at h1
          cases h1
          exact ht h2
        have e : decide (k < i + 1) = decide (k < i) := by simp; omega
        simp only [e]
    unfold put1
    cases hd : o.dst with
    | none => simp only; rw [hf t, same t (by rw [hd]; simp)]
    | some d =>
      simp only
      rw [gt_cons]
      by_cases e : d = t
      · subst e
        rw [if_pos rfl]
        unfold Fv
        rw [hu i o d ho hd]
        simp [hv]
      · rw [if_neg e, hf t, same t (by rw [hd]; simp [e])]
  have hget : ∀ {i : Nat} {o : Oper} {os : List Oper}, all.drop i = o :: os → all[i]? = some o ∧ all.drop (i + 1) = os := by
    intro i o os h
    have h1 : (all.drop i)[0]? = some o := by rw [h]; rfl
    have h2 : (all.drop i).drop 1 = os := by rw [h]; rfl
    rw [List.getElem?_drop] at h1
    rw [List.drop_drop] at h2
    exact ⟨h1, h2⟩
  have hgetR : ∀ {i : Nat} {o : Rec} {os RS : List Rec}, RS.drop i = o :: os → RS[i]? = some o ∧ RS.drop (i + 1) = os := by
    intro i o os RS h
    have h1 : (RS.drop i)[0]? = some o := by rw [h]; rfl
    have h2 : (RS.drop i).drop 1 = os := by rw [h]; rfl
    rw [List.getElem?_drop] at h1
    rw [List.drop_drop] at h2
    exact ⟨h1, h2⟩
  have hstep : ∀ {i : Nat} {o : Oper} {r : Rec} {H0 : List (Hp × Nat)} {RS : List Rec} {fr0 : Fr} {A : Prop}, all[i]? = some o → RS[i]? = some r → OpFact E all hs H0 (recV RS) fr0 i o r →
      ((∀ k o, i + 1 ≤ k → all[k]? = some o → ∃ r, RS[k]? = some r ∧ OpFact E all hs H0 (recV RS) fr0 k o r) ∧ A) → ((∀ k o, i ≤ k → all[k]? = some o → ∃ r, RS[k]? = some r ∧ OpFact E all hs H0 (recV RS) fr0 k o r) ∧ A) := by
    intro i o r H0 RS fr0 A h1 h2 h3 ⟨h4, h5⟩
    refine ⟨fun k o' hk ho => ?_, h5⟩
    rcases Nat.lt_or_eq_of_le hk with hlt | rfl
    · exact h4 k o' hlt ho
    · rw [h1] at ho
      cases ho
      exact ⟨r, h2, h3⟩
  induction h with
  | @nil i s =>
    intro H0 RS fr0 h1 h2 h3 h4 h5
    have hlen : all.length ≤ i := List.drop_eq_nil_iff.1 h1
    refine ⟨fun k o hk ho => ?_, fun t => ?_, ?_⟩
    · have := (List.getElem?_eq_some_iff.1 ho).1
      omega
    · rw [h5 t]
      unfold Fv
      cases hw : wIdx all t with
      | none => rfl
      | some k =>
        obtain ⟨o', h1, h2⟩ := wIdx_lt hw
        have := (List.getElem?_eq_some_iff.1 h1).1
        simp only
        rw [if_pos (by simp; omega)]
        rfl
    · rw [← h3]
      congr 1
      exact lenF_congr fun x hx => by
        have := hlt x hx
        simp
        omega
  | @p i o os s p v rs hps s' hi hg hst hq h ih =>
    intro H0 RS fr0 h1 h2 h3 h4 h5
    obtain ⟨ho, h1'⟩ := hget h1
    obtain ⟨hr, h2'⟩ := hgetR h2
    have hc := cntH_succ hn i
    rw [if_neg (by rw [hi]; simp)] at hc
    replace hc : cntH hs (i + 1) = cntH hs i := hc
    exact hstep ho hr ⟨h5, h3, .inl ⟨hi, hg, rfl, hst, hq⟩⟩ (ih H0 RS fr0 h1' h2' (by rw [hc, put1_hp, put1_nx]; exact h3) (by rw [hc]; exact h4) (hput ho (by simp [recV, hr, Rec.V]) h5))
  | @g i o os s p v rs hps s' j want g hi hg hv hst hq h ih =>
    intro H0 RS fr0 h1 h2 h3 h4 h5
    obtain ⟨ho, h1'⟩ := hget h1
    obtain ⟨hr, h2'⟩ := hgetR h2
    have hc := cntH_succ hn i
    rw [if_neg (by rw [hi]; simp)] at hc
    replace hc : cntH hs (i + 1) = cntH hs i := hc
    exact hstep ho hr ⟨h5, h3, .inr (.inl ⟨hi, j, want, g, hg, rfl, hv, hst, hq⟩)⟩ (ih H0 RS fr0 h1' h2' (by rw [hc, put1_hp, put1_nx]; exact h3) (by rw [hc]; exact h4) (hput ho (by simp [recV, hr, Rec.V]) h5))
  | @h i o os s p v hp nx rs hps s' hi hg hst hq h ih =>
    intro H0 RS fr0 h1 h2 h3 h4 h5
    obtain ⟨ho, h1'⟩ := hget h1
    obtain ⟨hr, h2'⟩ := hgetR h2
    have hc := cntH_succ hn i
    rw [if_pos hi] at hc
    have hnext : H0[cntH hs i + 1]? = some (hp, nx) := by
      have : (H0.drop (cntH hs i + 1))[0]? = some (hp, nx) := by rw [h4]; rfl
      rwa [List.getElem?_drop] at this
    have hrest : H0.drop (cntH hs i + 1 + 1) = hps := by
      have : (H0.drop (cntH hs i + 1)).drop 1 = hps := by rw [h4]; rfl
      rwa [List.drop_drop] at this
    exact hstep ho hr ⟨h5, h3, .inr (.inr ⟨hi, hg, rfl, hp, nx, hnext, hst, hq⟩)⟩ (ih H0 RS fr0 h1' h2' (by rw [hc, put1_hp, put1_nx]; exact hnext) (by rw [hc]; exact hrest) (hput ho (by simp [recV, hr, Rec.V]) h5))
theorem cloL_pre : ∀ (os : List Oper) (acc : List (List Nat)), ∃ r, cloL os acc = acc ++ r ∧ r.length = os.length
  | [], acc => ⟨[], by simp [cloL]⟩
  | o :: os, acc => by
    obtain ⟨r, h, hl⟩ := cloL_pre os (acc ++ [o.after.toList.flatMap fun e => if bindE e then e.on :: acc.getD e.on [] else []])
    refine ⟨(o.after.toList.flatMap fun e => if bindE e then e.on :: acc.getD e.on [] else []) :: r, ?_, by simp [hl]⟩
    show cloL os _ = _
    rw [h, List.append_assoc]
    rfl
theorem cloL_get : ∀ (os : List Oper) (acc : List (List Nat)) (i : Nat) (o : Oper), os[i]? = some o → (∀ e ∈ o.after.toList, bindE e = true → e.on < acc.length + i) →
    ∀ j ∈ (cloL os acc).getD (acc.length + i) [], ∃ e ∈ o.after.toList, bindE e = true ∧ (j = e.on ∨ j ∈ (cloL os acc).getD e.on [])
  | [], acc, i, o, h, _, _, _ => by simp at h
  | o' :: os, acc, 0, o, h, he, j, hj => by
    simp at h
    subst h
    obtain ⟨r, hr, _⟩ := cloL_pre os (acc ++ [o'.after.toList.flatMap fun e => if bindE e then e.on :: acc.getD e.on [] else []])
    have hc : cloL (o' :: os) acc = acc ++ ([o'.after.toList.flatMap fun e => if bindE e then e.on :: acc.getD e.on [] else []] ++ r) := by
      show cloL os _ = _
      rw [hr, List.append_assoc]
    have hpre : ∀ k, k < acc.length → (cloL (o' :: os) acc).getD k [] = acc.getD k [] := fun k hk => by
      rw [hc]
      simp [List.getD, List.getElem?_append_left hk]
    have hx : (cloL (o' :: os) acc).getD (acc.length + 0) [] = o'.after.toList.flatMap fun e => if bindE e then e.on :: acc.getD e.on [] else [] := by
      rw [hc]
      simp [List.getD]
    rw [hx] at hj
    obtain ⟨e, h1, h2⟩ := List.mem_flatMap.1 hj
    split at h2
    · rename_i hb
      refine ⟨e, h1, hb, ?_⟩
      rw [hpre e.on (he e h1 hb)]
      simpa using h2
    · cases h2
  | o' :: os, acc, i + 1, o, h, he, j, hj => by
    have := cloL_get os (acc ++ [o'.after.toList.flatMap fun e => if bindE e then e.on :: acc.getD e.on [] else []]) i o (by simpa using h)
      (fun e h1 h2 => by have := he e h1 h2; simp; omega)
    have hlen : (acc ++ [o'.after.toList.flatMap fun e => if bindE e then e.on :: acc.getD e.on [] else []]).length + i = acc.length + (i + 1) := by simp; omega
    rw [hlen] at this
    exact this j hj
/-- What the check of a drawn region says. -/
structure DrawS (all : List Oper) (cl : List (List Nat)) (hs : List Nat) (iv : List (List Nat)) (i : Nat) (o : Oper) : Prop where
  s1 : ∀ e ∈ o.after.toList, bindE e = true → e.on < i
  s2 : ∀ t ∈ looks all o, ∀ k, wIdx all t = some k → ordB cl i k = true
  s3 : ∀ d, o.dst = some d → wIdx all d = some i
  s4 : memN i hs = true → (∀ h ∈ hs, ordB cl i h = true) ∧ o.guard = none
  s5 : memN i hs = false → ∀ c, c ≤ hs.length → lenF hs (fun h => memN h (cl.getD i [])) ≤ c → c ≤ lenF hs (fun h => !memN i (cl.getD h [])) → c = cntH hs i ∨ c ∈ iv.getD i []
theorem drawOk1_get {cl : List (List Nat)} {iv : List (List Nat)} : ∀ {os : List Oper} {i k : Nat} {o : Oper}, drawOk1 all cl hs iv i os = true → os[k]? = some o → DrawS all cl hs iv (i + k) o
  | [], i, k, o, _, h => by simp at h
  | o' :: os, i, k + 1, o, h, hk => by
    simp only [drawOk1, Bool.and_eq_true] at h
    have := drawOk1_get h.2 (show os[k]? = some o by simpa using hk)
    rwa [show i + 1 + k = i + (k + 1) by omega] at this
  | o' :: os, i, 0, o, h, hk => by
    simp at hk
    subst hk
    simp only [drawOk1, Bool.and_eq_true, List.all_eq_true] at h
    obtain ⟨⟨⟨⟨h1, h2⟩, h3⟩, h4⟩, _⟩ := h
    refine ⟨fun e he hb => ?_, fun t ht k hk => ?_, fun d hd => ?_, fun hm => ?_, fun hm c hc hl hh => ?_⟩
    · have := h1 e he
      rw [hb] at this
      simpa using this
    · have := h2 t ht
      rw [hk] at this
      exact this
    · rw [hd] at h3
      simpa using h3
    · rw [Nat.add_zero] at hm
      rw [if_pos hm] at h4
      simp only [Bool.and_eq_true, List.all_eq_true, Option.isNone_iff_eq_none] at h4
      exact h4
    · rw [Nat.add_zero] at hm hl hh ⊢
      rw [if_neg (by rw [hm]; simp)] at h4
      simp only [List.all_eq_true] at h4
      have := h4 c (List.mem_range.2 (by omega))
      have e1 : (decide (lenF hs (fun h => memN h (cl.getD i [])) ≤ c) && decide (c ≤ lenF hs (fun h => !memN i (cl.getD h [])))) = true := by
        rw [Bool.and_eq_true]
        exact ⟨by simpa using hl, by simpa using hh⟩
      rw [e1] at this
      simp only [Bool.not_true, Bool.false_or, Bool.or_eq_true, beq_iff_eq, memN_iff] at this
      exact this
theorem ivOk_get {hps : List (Hp × Nat)} : ∀ {iv : List (List Nat)} {os : List Oper} {rs : List Rec} {i : Nat} {o : Oper} {r : Rec}, ivOk E hps iv os rs → os[i]? = some o → rs[i]? = some r →
    ∀ c ∈ iv.getD i [], ∃ q, hps[c]? = some q ∧ stepP E (bare' o) (opEv o r.s.fr) q.1 = some (r.p, r.v)
  | [], os, rs, i, o, r, h, h1, h2, c, hc => by simp at hc
  | x :: iv, [], rs, i, o, r, h, h1, h2, c, hc => by simp at h1
  | x :: iv, o' :: os, [], i, o, r, h, h1, h2, c, hc => by simp at h2
  | [] :: iv, o' :: os, r' :: rs, 0, o, r, h, h1, h2, c, hc => by simp at hc
  | (x :: xs) :: iv, o' :: os, r' :: rs, 0, o, r, h, h1, h2, c, hc => by
    simp at h1 h2
    subst h1
    subst h2
    exact h.1 c (by simpa using hc)
  | [] :: iv, o' :: os, r' :: rs, i + 1, o, r, h, h1, h2, c, hc => ivOk_get (iv := iv) (os := os) (rs := rs) h (by simpa using h1) (by simpa using h2) c (by simpa using hc)
  | (x :: xs) :: iv, o' :: os, r' :: rs, i + 1, o, r, h, h1, h2, c, hc => ivOk_get (iv := iv) (os := os) (rs := rs) h.2 (by simpa using h1) (by simpa using h2) c (by simpa using hc)
theorem tmpsOf_mem : ∀ {l : List Operand} {t : Nat}, .tmp t ∈ l → t ∈ tmpsOf l
  | [], _, h => by cases h
  | x :: l, t, h => by
    cases h with
    | head => exact List.mem_cons_self
    | tail _ h =>
      have := tmpsOf_mem h
      cases x <;> first | exact List.mem_cons_of_mem _ this | exact this
theorem ev_congr {fr fr' : Fr} {x : Operand} (h : ∀ t, x = .tmp t → gt fr t = gt fr' t) : ev fr x = ev fr' x := by
  cases x with
  | tmp t => exact h t rfl
  | _ => rfl
theorem opReq_congr {fr fr' : Fr} : ∀ {l : List Operand}, (∀ x ∈ l, ev fr x = ev fr' x) → opReq fr l = opReq fr' l
  | [], _ => rfl
  | x :: l, h => by
    simp only [opReq]
    rw [h x List.mem_cons_self, opReq_congr fun y hy => h y (List.mem_cons_of_mem _ hy)]
theorem oper_bare {P : Program} {o : Oper} {a w K Q} : Oper.wp P o a w K Q = Oper.wp P (bare' o) a w K Q := rfl
theorem SRel.congr {X : Ctx} {s s' : St} {a : Act} (h : SRel X G s a) (h1 : s'.hp = s.hp) (h2 : s'.nx = s.nx) (h3 : ∀ t, gt s'.fr t = gt s.fr t) : SRel X G s' a :=
  ⟨h1 ▸ h.hp, h2 ▸ h.nx, h.sz, h.df, fun n => by rw [h3]; exact h.fr n, h.wr⟩
theorem SRel.eta {X : Ctx} {s : St} {a : Act} {fr : Fr} (h : SRel X G s a) (h3 : ∀ t, gt fr t = gt s.fr t) : SRel X G ⟨fr, s.hp, s.nx⟩ a := h.congr rfl rfl h3
/-- The world has drawn. -/
theorem drawn_rel {X : Ctx} {s : St} {a : Act} (h : SRel X G s a) (n : Nat) : SRel { X with w := { X.w with drawn := n } } G s a ∧ Ext X { X with w := { X.w with drawn := n } } := by
  have e : Ext X { X with w := { X.w with drawn := n } } := ⟨rfl, Nat.le_refl _, fun _ h => h, fun _ _ _ => rfl, fun _ _ => ⟨rfl, rfl⟩⟩
  have hk : Keep (fun _ => False) X.w { X.w with drawn := n } := ⟨rfl, rfl, rfl, Nat.le_refl _, fun _ _ _ => rfl⟩
  have hw : WRel { X with w := { X.w with drawn := n } } G := grow_rel (R' := X.R) h.wr hk (fun _ h => h) (fun _ h => .inl h) h.wr.rl
  exact ⟨⟨h.hp, h.nx, h.sz, h.df, fun n => (h.fr n).ext e, hw⟩, e⟩
section main
variable {ops : Array Oper} {iv : List (List Nat)} {RS : List Rec} {H0 : List (Hp × Nat)} {fr0 : Fr}
structure DInv (G : Beg) (all : List Oper) (hs : List Nat) (H0 : List (Hp × Nat)) (V : Nat → AV) (fr0 : Fr) (listed : Array Bool) (X : Ctx) (a : Act) : Prop where
  sz : listed.size = all.length
  cl : ∀ i, listed.getD i false = true → ∀ j ∈ (cloL all []).getD i [], listed.getD j false = true
  rel : ∃ fr hp nx, (∀ t, gt fr t = Fv all V fr0 (fun i => listed.getD i false) t) ∧ H0[lenF hs fun i => listed.getD i false]? = some (hp, nx) ∧ SRel X G ⟨fr, hp, nx⟩ a
theorem getD_set {l : Array Bool} {i j : Nat} (hi : i < l.size) : (l.setIfInBounds i true).getD j false = if i = j then true else l.getD j false := by
  simp only [Array.getD_eq_getD_getElem?, Array.getElem?_setIfInBounds]
  by_cases h : i = j
  · subst h
    simp [hi]
  · simp [h]
theorem getD_tf {l : Array Bool} {i : Nat} (hi : i < l.size) : l.getD i true = l.getD i false := by
  simp [Array.getD, hi]
/-- Behind a step. -/
theorem DInv.next {listed : Array Bool} {X X' : Ctx} {a : Act} {i : Nat} {o : Oper} {hp hp' : Hp} {nx nx' : Nat} {fr : Fr} {V : Nat → AV} {u : Value} (hn : hs.Nodup) (h : DInv G all hs H0 V fr0 listed X a) (ho : all[i]? = some o)
    (hu : ∀ (k : Nat) (o : Oper) (d : Nat), all[k]? = some o → o.dst = some d → wIdx all d = some k)
    (hf : ∀ t, gt fr t = Fv all V fr0 (fun i => listed.getD i false) t) (hrel : SRel X G ⟨fr, hp, nx⟩ a)
    (hni : listed.getD i false = false) (hcl : ∀ j ∈ (cloL all []).getD i [], listed.getD j false = true) (e : Ext X X') (hw : WRel X' G) (h1 : X'.hp = hp') (h2 : X'.nx = nx') (hd : ∀ d, o.dst = some d → d < G.N) (hv : RelV X' (V i) u)
    (hst : H0[(lenF hs fun i => listed.getD i false) + if memN i hs then 1 else 0]? = some (hp', nx')) : DInv G all hs H0 V fr0 (listed.setIfInBounds i true) X' (a.put o.dst u) := by
  have hlt : i < listed.size := by rw [h.sz]; exact (List.getElem?_eq_some_iff.1 ho).1
  refine ⟨by simp [h.sz], fun j hj k hk => ?_, (put1 ⟨fr, hp, nx⟩ o.dst (V i) hp' nx').fr, hp', nx', fun t => ?_, ?_, ?_⟩
  · rw [getD_set hlt] at hj ⊢
    split
    · rfl
    · split at hj
      · rename_i e
        subst e
        exact hcl k hk
      · exact h.cl j hj k hk
  · unfold Fv
    have hsame : ∀ t, o.dst ≠ some t → Fv all V fr0 (fun j => (listed.setIfInBounds i true).getD j false) t = Fv all V fr0 (fun j => listed.getD j false) t := by
      intro t ht
      unfold Fv
      cases hw : wIdx all t with
      | none => rfl
      | some k =>
        have : i ≠ k := fun e => by
          subst e
          obtain ⟨o', h1, h2⟩ := wIdx_lt hw
          rw [ho] at h1
          cases h1
          exact ht h2
        simp only [getD_set hlt, if_neg this]
    change gt (put1 ⟨fr, hp, nx⟩ o.dst (V i) hp' nx').fr t = Fv all V fr0 (fun j => (listed.setIfInBounds i true).getD j false) t
    unfold put1
    cases hd' : o.dst with
    | none => simp only; rw [hf t, hsame t (by rw [hd']; simp)]
    | some d =>
      simp only
      rw [gt_cons]
      by_cases e : d = t
      · subst e
        rw [if_pos rfl]
        unfold Fv
        rw [hu i o d ho hd']
        simp only [getD_set hlt, if_true]
      · rw [if_neg e, hf t, hsame t (by rw [hd']; simp [e])]
  · rw [← hst]
    congr 1
    by_cases hm : i ∈ hs
    · rw [if_pos (memN_iff.2 hm)]
      exact lenF_add hn hm hni (by rw [getD_set hlt, if_pos rfl]) fun x _ hx => by rw [getD_set hlt, if_neg (Ne.symm hx)]
    · rw [if_neg (by rw [memN_iff]; exact hm)]
      refine lenF_congr fun x hx => ?_
      have hxi : i ≠ x := fun e => hm (by rw [e]; exact hx)
      rw [getD_set hlt, if_neg hxi]
  · have := hrel.put (dst := o.dst) (v := V i) (u := u) e hw h1 h2 hd hv
    exact this.congr (by rw [put1_hp]) (by rw [put1_nx]) fun t => rfl
theorem draw_any (hE : EnvOk P E) (hok : drawOk ops.toList hs iv = true) {s s' : St} {hps : List (Hp × Nat)} (hd : DT E ops.toList hs 0 ops.toList s RS hps s') (hiv : ivOk E ((s.hp, s.nx) :: hps) iv ops.toList RS)
    {m : List MIt} (hwr : ∀ d ∈ wrO ops.toList, d < G.N ∧ ¬ KeepIn m d) {Q : Exit → Act → World → Prop} {XS : Ctx} (hend : ∀ X a, SRel X G s' a → X.ety = E.ety → Kept m X a → Ext XS X → Q .normal a X.w) :
    ∀ (fuel : Nat) (listed : Array Bool) (X : Ctx) (a : Act), (lenF (List.range ops.size) fun j => !listed.getD j true) ≤ fuel → DInv G ops.toList hs ((s.hp, s.nx) :: hps) (recV RS) s.fr listed X a → X.ety = E.ety → Kept m X a → Ext XS X →
      wpAny P .any ops Q fuel listed a X.w := by
  simp only [drawOk, Bool.and_eq_true, List.all_eq_true] at hok
  obtain ⟨⟨hn, hlt⟩, hok⟩ := hok
  replace hn := nodupN_iff hn
  replace hlt : ∀ h ∈ hs, h < ops.toList.length := fun h hh => by simpa using hlt h hh
  have hS : ∀ k o, ops.toList[k]? = some o → DrawS ops.toList (cloL ops.toList []) hs iv k o := fun k o hk => by
    have := drawOk1_get hok hk
    rwa [Nat.zero_add] at this
  have hu : ∀ (k : Nat) (o : Oper) (d : Nat), ops.toList[k]? = some o → o.dst = some d → wIdx ops.toList d = some k := fun k o d hk hd => (hS k o hk).s3 d hd
  have hcl : ∀ k o, ops.toList[k]? = some o → ∀ j ∈ (cloL ops.toList []).getD k [], ∃ e ∈ o.after.toList, bindE e = true ∧ (j = e.on ∨ j ∈ (cloL ops.toList []).getD e.on []) := fun k o hk j hj => by
    have := cloL_get ops.toList [] k o hk (fun e h1 h2 => by simpa using (hS k o hk).s1 e h1 h2) j (by simpa using hj)
    exact this
  have hc0 : cntH hs 0 = 0 := by
    unfold cntH lenF
    rw [List.filter_eq_nil_iff.2 (by simp)]
    rfl
  obtain ⟨hfact, hfin, hfin'⟩ := DT.facts hn hlt hu hd ((s.hp, s.nx) :: hps) RS s.fr rfl rfl (by rw [hc0]; rfl) (by rw [hc0]; rfl) (fun t => by unfold Fv; cases wIdx ops.toList t <;> simp)
  have hdone : ∀ (listed : Array Bool) (X : Ctx) (a : Act), (∀ j, j < ops.size → listed.getD j false = true) → DInv G ops.toList hs ((s.hp, s.nx) :: hps) (recV RS) s.fr listed X a → X.ety = E.ety → Kept m X a → Ext XS X → Q .normal a X.w := by
    intro listed X a hall hi he hk hx
    obtain ⟨fr, hp, nx, h1, h2, h3⟩ := hi.rel
    refine hend X a (h3.congr ?_ ?_ fun t => ?_) he hk hx
    · have : lenF hs (fun i => listed.getD i false) = cntH hs ops.toList.length := lenF_congr fun x hx => by
        have := hlt x hx
        rw [hall x (by simpa using this)]
        simp
        simpa using this
      rw [this, hfin'] at h2
      cases h2
      rfl
    · have : lenF hs (fun i => listed.getD i false) = cntH hs ops.toList.length := lenF_congr fun x hx => by
        have := hlt x hx
        rw [hall x (by simpa using this)]
        simp
        simpa using this
      rw [this, hfin'] at h2
      cases h2
      rfl
    · rw [hfin t]
      show _ = gt fr t
      rw [h1 t]
      unfold Fv
      cases hw : wIdx ops.toList t with
      | none => rfl
      | some k =>
        obtain ⟨o', h1, _⟩ := wIdx_lt hw
        have := (List.getElem?_eq_some_iff.1 h1).1
        simp only [hall k (by simpa using this)]
  have hready : ∀ (listed : Array Bool), listed.size = ops.toList.length → Region.ready .any ops listed = [] → ∀ j, j < ops.size → listed.getD j false = true := by
    intro listed hsz hr j
    induction j using Nat.strongRecOn with
    | _ j ih =>
      intro hj
      cases hl : listed.getD j false with
      | true => rfl
      | false =>
        exfalso
        have hj' : j < listed.size := by rw [hsz]; simpa using hj
        have : j ∈ Region.ready .any ops listed := by
          unfold Region.ready
          rw [List.mem_filter]
          refine ⟨List.mem_range.2 hj, ?_⟩
          rw [getD_tf hj', hl]
          simp only [Bool.not_false, Bool.true_and]
          have ho : ops[j]? = some ops[j] := by simp [hj]
          rw [ho]
          simp only [Option.map_some, Option.getD_some]
          rw [Array.all_eq_true']
          intro e he
          have hoL : ops.toList[j]? = some ops[j] := by simp [hj]
          cases hb : Region.binds .any e with
          | false => rfl
          | true =>
            have h1 := (hS j _ hoL).s1 e (by simpa using he) hb
            rw [ih e.on h1 (by omega)]
            rfl
        rw [hr] at this
        cases this
  intro fuel
  induction fuel with
  | zero =>
    intro listed X a hf hi he hk hx
    have hall : ∀ j, j < ops.size → listed.getD j true = true := by
      intro j hj
      cases hl : listed.getD j true with
      | true => rfl
      | false =>
        exfalso
        have : j ∈ (List.range ops.size).filter (fun j => !listed.getD j true) := by
          rw [List.mem_filter]
          exact ⟨List.mem_range.2 hj, by rw [hl]; rfl⟩
        have h0 : ((List.range ops.size).filter (fun j => !listed.getD j true)).length = 0 := Nat.le_zero.1 hf
        rw [List.eq_nil_of_length_eq_zero h0] at this
        cases this
    have hall' : ∀ j, j < ops.size → listed.getD j false = true := fun j hj => by rw [← getD_tf (by rw [hi.sz]; simpa using hj)]; exact hall j hj
    refine ⟨?_, hdone listed X a hall' hi he hk hx⟩
    unfold Region.ready
    rw [List.filter_eq_nil_iff]
    intro j hj
    rw [hall j (List.mem_range.1 hj)]
    simp
  | succ fuel ih =>
    intro listed X a hf hi he hk hx
    refine ⟨fun hr => hdone listed X a (hready listed hi.sz hr) hi he hk hx, fun i hi' => ?_⟩
    unfold Region.ready at hi'
    rw [List.mem_filter] at hi'
    obtain ⟨hir, hi'⟩ := hi'
    have hlti : i < ops.size := List.mem_range.1 hir
    have hlti' : i < listed.size := by rw [hi.sz]; simpa using hlti
    have hoA : ops[i]? = some ops[i] := by simp [hlti]
    have ho : ops.toList[i]? = some ops[i] := by simp [hlti]
    generalize ops[i] = o at hoA ho
    rw [hoA] at hi'
    simp only [Option.map_some, Option.getD_some, Bool.and_eq_true, Bool.not_eq_true'] at hi'
    obtain ⟨hni, hedge⟩ := hi'
    rw [getD_tf hlti'] at hni
    have hedge' : ∀ e ∈ o.after.toList, bindE e = true → listed.getD e.on false = true := fun e h1 h2 => by
      have := (Array.all_eq_true'.1 hedge) e (by simpa using h1)
      rw [show Region.binds .any e = true from h2] at this
      simpa using this
    have hclo : ∀ j ∈ (cloL ops.toList []).getD i [], listed.getD j false = true := fun j hj => by
      obtain ⟨e, h1, h2, h3⟩ := hcl i o ho j hj
      rcases h3 with rfl | h3
      · exact hedge' e h1 h2
      · exact hi.cl e.on (hedge' e h1 h2) j h3
    have hord : ∀ k, ordB (cloL ops.toList []) i k = true → listed.getD k false = decide (k < i) := fun k h => by
      unfold ordB at h
      split at h
      · rename_i hki
        rw [hclo k (memN_iff.1 h)]
        simp [hki]
      · rename_i hki
        rw [show decide (k < i) = false by simpa using hki]
        simp only [Bool.or_eq_true, beq_iff_eq] at h
        rcases h with rfl | h
        · exact hni
        · cases hl : listed.getD k false with
          | false => rfl
          | true => rw [hi.cl k hl i (memN_iff.1 h)] at hni; cases hni
    have hSi := hS i o ho
    obtain ⟨r, hRS, hf1, hf2, hf3⟩ := hfact i o (Nat.zero_le _) ho
    obtain ⟨fr, hp, nx, k1, k2, k3⟩ := hi.rel
    have hlook : ∀ t ∈ looks ops.toList o, gt fr t = gt r.s.fr t := fun t ht => by
      rw [k1 t, hf1 t]
      unfold Fv
      cases hw : wIdx ops.toList t with
      | none => rfl
      | some k => simp only [hord k (hSi.s2 t ht k hw)]
    have hev : ∀ x ∈ o.op.operands.toList, ev fr x = ev r.s.fr x := fun x hx => ev_congr fun t ht => hlook t (List.mem_append_left _ (tmpsOf_mem (ht ▸ hx)))
    have hdN : ∀ d, o.dst = some d → d < G.N ∧ ¬ KeepIn m d := fun d hd => hwr d (by
      have : ∀ (os : List Oper), o ∈ os → d ∈ wrO os := by
        intro os
        induction os with
        | nil => intro h; cases h
        | cons o' os ih =>
          intro h
          cases h with
          | head => simp [wrO, hd]
          | tail _ h => have := ih h; cases ho' : o'.dst <;> simp [wrO, ho', this]
      exact this _ (List.mem_of_getElem? ho))
    have hfuel : (lenF (List.range ops.size) fun j => !(listed.setIfInBounds i true).getD j true) ≤ fuel := by
      have hgt : ∀ j, (listed.setIfInBounds i true).getD j true = if i = j then true else listed.getD j true := fun j => by
        simp only [Array.getD_eq_getD_getElem?, Array.getElem?_setIfInBounds]
        by_cases h : i = j
        · subst h
          simp [hlti']
        · simp [h]
      have := lenF_add (l := List.range ops.size) (f := fun j => !(listed.setIfInBounds i true).getD j true) (g := fun j => !listed.getD j true) (i := i) List.nodup_range (List.mem_range.2 hlti) (by rw [hgt, if_pos rfl]; rfl) (by rw [getD_tf hlti', hni]; rfl) (fun x _ hx => by rw [hgt, if_neg (Ne.symm hx)])
      omega
    have hVi : recV RS i = r.V := by simp [recV, hRS]
    have hgo : ∀ X' u hp' nx', Ext X X' → WRel X' G → X'.hp = hp' → X'.nx = nx' → RelV X' r.V u → ((s.hp, s.nx) :: hps)[(lenF hs fun i => listed.getD i false) + if memN i hs then 1 else 0]? = some (hp', nx') →
        wpAny P .any ops Q fuel (listed.setIfInBounds i true) (a.put o.dst u) X'.w := by
      intro X' u hp' nx' e1 w1 h1 h2 hv hst
      exact ih _ X' _ hfuel (hi.next hn ho hu k1 k3 hni hclo e1 w1 h1 h2 (fun d hd => (hdN d hd).1) (by rw [hVi]; exact hv) hst) (e1.ety.trans he)
        (Kept.put (Kept.ext hk k3.wr e1) fun d hd => (hdN d hd).2) (Ext.trans (fun b hb _ => k3.wr.rl b (hx.R b hb)) hx e1)
    have hPst : memN i hs = false → stepP E (bare' o) (opEv o r.s.fr) r.s.hp = some (r.p, r.v) → stepP E (bare' o) (opEv o r.s.fr) hp = some (r.p, r.v) := by
      intro hm hst
      have hlo : lenF hs (fun h => memN h ((cloL ops.toList []).getD i [])) ≤ lenF hs fun i => listed.getD i false := lenF_le fun x _ h => hclo x (memN_iff.1 h)
      have hhi : (lenF hs fun i => listed.getD i false) ≤ lenF hs (fun h => !memN i ((cloL ops.toList []).getD h [])) := lenF_le fun x _ h => by
        cases hmm : memN i ((cloL ops.toList []).getD x []) with
        | false => rfl
        | true => rw [hi.cl x h i (memN_iff.1 hmm)] at hni; cases hni
      rcases hSi.s5 hm (lenF hs fun i => listed.getD i false) (List.length_filter_le _ _) hlo hhi with hc | hc
      · rw [hc, hf2] at k2
        cases k2
        exact hst
      · obtain ⟨q, q1, q2⟩ := ivOk_get hiv ho hRS _ hc
        rw [q1] at k2
        cases k2
        exact q2
    show wpOp P ops Q i (wpAny P .any ops Q fuel (listed.setIfInBounds i true)) a X.w
    unfold wpOp
    rw [hoA]
    simp only
    rcases hf3 with ⟨hm, hg, hrg, hst, hq⟩ | ⟨hm, j, want, g, hg, hrg, hgv, hst, hq⟩ | ⟨hm, hg, hrg, hp', nx', hnext, hst, hq⟩
    · have hop : opEv o r.s.fr = ev r.s.fr := by unfold opEv; rw [hg]
      have hst' := hPst hm (by rw [hop]; exact hst)
      rw [hop] at hst'
      have hw : Region.wanted o (yielded ops a.tmps) = true := by unfold Region.wanted; rw [hg]
      rw [if_pos hw]
      left
      have hV : r.V = r.v := by unfold Rec.V; rw [hrg]
      rw [oper_bare]
      refine stepP_sound (o := bare' o) hE he k3.wr (e := ev r.s.fr) (fun x hx => by rw [← hev x hx]; exact k3.ev x) (by rw [k3.hp]; exact hst') hq _ _ fun X' u e1 w1 h1 h2 hv => ?_
      exact hgo X' u hp nx e1 w1 (h1.trans k3.hp) (h2.trans k3.nx) (by rw [hV]; exact hv) (by rw [hm]; exact k2)
    · have hop : opEv o r.s.fr = evx o.op r.s.fr := by unfold opEv; rw [hg]
      have hst' := hPst hm (by rw [hop]; exact hst)
      rw [hop] at hst'
      have hV : r.V = .opt g r.v := by unfold Rec.V; rw [hrg]
      have hgv' : gval ops.toList fr j want = some g := by
        rw [← hgv]
        unfold gval
        cases hd : (ops.toList[j]?).bind (·.dst) with
        | none => rfl
        | some d =>
          simp only
          rw [hlook d (by unfold looks; rw [hg]; simp only [hd]; exact List.mem_append_right _ List.mem_cons_self)]
      have hw := gval_wanted k3 hgv'
      rw [Array.toArray_toList] at hw
      have hw' : Region.wanted o (yielded ops a.tmps) = g := by unfold Region.wanted; rw [hg]; exact hw
      rw [hw']
      cases g with
      | false =>
        rw [if_neg (by simp)]
        exact hgo X undef hp nx (.refl X) k3.wr k3.hp k3.nx (by rw [hV]; exact .opt _ _ _ (fun h => by cases h) (fun _ => rfl)) (by rw [hm]; exact k2)
      | true =>
        rw [if_pos rfl]
        left
        obtain ⟨hq1, hq2⟩ := cjo_all (hq rfl)
        have hrq : reqx o.op fr = reqx o.op r.s.fr := by unfold reqx; split; rfl; exact opReq_congr hev
        rw [oper_bare]
        refine stepP_sound (o := bare' o) hE he k3.wr (e := evx o.op r.s.fr) (fun x hx => ?_) (by rw [k3.hp]; exact hst') hq2 _ _ fun X' u e1 w1 h1 h2 hv => ?_
        · have := evx_rel k3 (op := o.op) (by rw [hrq]; exact hq1) x hx
          have hee : evx o.op r.s.fr x = evx o.op fr x := by unfold evx; rw [hev x hx]
          rw [hee]
          exact this
        · exact hgo X' u hp nx e1 w1 (h1.trans k3.hp) (h2.trans k3.nx) (by rw [hV]; exact .opt _ _ _ (fun _ => hv) (fun h => by cases h)) (by rw [hm]; exact k2)
    · have hw : Region.wanted o (yielded ops a.tmps) = true := by unfold Region.wanted; rw [hg]
      rw [if_pos hw]
      left
      have hc : (lenF hs fun i => listed.getD i false) = cntH hs i := lenF_congr fun x hx => hord x ((hSi.s4 hm).1 x hx)
      rw [hc, hf2] at k2
      cases k2
      have hV : r.V = r.v := by unfold Rec.V; rw [hrg]
      rw [oper_bare]
      refine stepH_sound (o := bare' o) hE he k3.wr (e := ev r.s.fr) (fun x hx => by rw [← hev x hx]; exact k3.ev x) (by rw [k3.hp, k3.nx]; exact hst) hq _ _ fun X' u e1 w1 h1 h2 hv => ?_
      exact hgo X' u hp' nx' e1 w1 h1 h2 (by rw [hV]; exact hv) (by rw [hc, hm]; exact hnext)
/-- A region that draws. -/
theorem wp_draw (hE : EnvOk P E) {id : Nat} (hok : drawOk ops.toList hs iv = true) {s s' : St} {hps : List (Hp × Nat)} (hd : DT E ops.toList hs 0 ops.toList s RS hps s') (hiv : ivOk E ((s.hp, s.nx) :: hps) iv ops.toList RS)
    {m : List MIt} (hwr : ∀ d ∈ wrO ops.toList, d < G.N ∧ ¬ KeepIn m d) {Q : Exit → Act → World → Prop} {XS : Ctx} (hend : ∀ X a, SRel X G s' a → X.ety = E.ety → Kept m X a → Ext XS X → Q .normal a X.w)
    {X : Ctx} {a : Act} (hr : SRel X G s a) (he : X.ety = E.ety) (hk : Kept m X a) (hx : Ext XS X) : (Code.region id ops true).wp P Q a X.w := by
  refine wp_region_any hE.mix ?_
  obtain ⟨hr', hx'⟩ := drawn_rel hr (X.w.drawn + 1)
  refine draw_any (P := P) hE hok hd hiv hwr hend ops.size (Array.replicate ops.size false) { X with w := { X.w with drawn := X.w.drawn + 1 } } a ?_ ?_ he (Kept.ext hk hr.wr hx') (Ext.trans (fun b hb _ => hr.wr.rl b (hx.R b hb)) hx hx')
  · refine Nat.le_trans (List.length_filter_le _ _) ?_
    simp
  · have hF : ∀ i, (Array.replicate ops.size false).getD i false = false := fun i => by
      simp only [Array.getD_eq_getD_getElem?, Array.getElem?_replicate]
      split <;> rfl
    refine ⟨by simp, fun i hi => ?_, s.fr, s.hp, s.nx, fun t => ?_, ?_, hr'.congr rfl rfl fun _ => rfl⟩
    · rw [hF] at hi
      cases hi
    · unfold Fv
      cases wIdx ops.toList t with
      | none => rfl
      | some k => simp only [hF]; rfl
    · have : (lenF hs fun i => (Array.replicate ops.size false).getD i false) = 0 := by
        unfold lenF
        rw [List.filter_eq_nil_iff.2 fun x _ => by rw [hF]; simp]
        rfl
      rw [this]
      rfl
end main
end
end Go.Ab
/- The engine, part Ae: the theorem: what the engine runs, the machine runs. -/
namespace Go.Ab
open Go
section
variable {P : Program} {E : Env} {G : Beg}
theorem oper_guard {P : Program} {dst op ty pos after gd a w K Q} : Oper.wp P ⟨dst, op, ty, pos, after, gd⟩ a w K Q = Oper.wp P ⟨dst, op, ty, pos, after, none⟩ a w K Q := rfl
theorem Kept.join {X X' X'' : Ctx} {a a' : Act} : ∀ {m : List MIt}, Kept m X a → Kept m X' a' → WRel X G → Ext X X'' → Kept m X'' a'
  | [], _, _, _, _ => trivial
  | .stop keep vals X0 _ :: m, h, h', hw, e => ⟨Ext.trans (fun b hb _ => hw.rl b (h.1.R b hb)) h.1 e, h'.2.1, Kept.join (m := m) h.2.2 h'.2.2 hw e⟩
  | .code _ :: m, h, h', hw, e => Kept.join (m := m) h h' hw e
  | .ops _ _ :: m, h, h', hw, e => Kept.join (m := m) h h' hw e
  | .inB _ :: m, h, h', hw, e => Kept.join (m := m) h h' hw e
theorem run_sound (hE : EnvOk P E) {Qs : St → Prop} {Fin : Act → World → Prop} {XS : Ctx} (hFin : ∀ s X a, SRel X G s a → X.ety = E.ety → Ext XS X → Qs s → Fin a X.w) {items : List It} {s : St} (h : Run E Qs items s) :
    ∀ (m : List MIt), Match G items m → Safe G.N m → ∀ (X : Ctx) (a : Act), SRel X G s a → X.ety = E.ety → Kept m X a → Ext XS X → (sem P Fin m).1 a X.w := by
  have xt : ∀ {X Y : Ctx}, WRel X G → Ext XS X → Ext X Y → Ext XS Y := fun hw h k => Ext.trans (fun b hb _ => hw.rl b (h.R b hb)) h k
  induction h with
  | nil h =>
    intro m hm hs X a hr he hk hx
    cases m with
    | cons x m => exact hm.elim
    | nil => exact hFin _ X a hr he hx h
  | ret h =>
    intro m hm hs X a hr he hk hx
    cases m with
    | nil => exact hm.elim
    | cons x m =>
      cases x <;> first | exact hm.elim | skip
      obtain ⟨rfl, hm⟩ := hm
      exact wp_ret (hFin _ X a hr he hx h)
  | skip h ih =>
    intro m hm hs X a hr he hk hx
    cases m with
    | nil => exact hm.elim
    | cons x m =>
      cases x <;> first | exact hm.elim | skip
      obtain ⟨rfl, hm⟩ := hm
      exact wp_skip (ih m hm hs.2.2 X a hr he hk hx)
  | @seq c1 c2 k s h ih =>
    intro m hm hs X a hr he hk hx
    cases m with
    | nil => exact hm.elim
    | cons x m =>
      cases x <;> first | exact hm.elim | skip
      obtain ⟨rfl, hm⟩ := hm
      have ho := (Bool.and_eq_true _ _ ▸ (show (okC c1 && okC c2) = true from hs.1) : _ ∧ _)
      have hw : ∀ d ∈ wr c1 ++ wr c2, d < G.N ∧ ¬ KeepIn m d := hs.2.1
      refine wp_seq (wp_mono (ih (.code c1 :: .code c2 :: m) ⟨rfl, rfl, hm⟩ ⟨ho.1, fun d hd => hw d (List.mem_append_left _ hd), ho.2, fun d hd => hw d (List.mem_append_right _ hd), hs.2.2⟩ X a hr he hk hx) ?_)
      intro e a w hh
      cases e <;> exact hh
  | @block id c k s h ih =>
    intro m hm hs X a hr he hk hx
    cases m with
    | nil => exact hm.elim
    | cons x m =>
      cases x <;> first | exact hm.elim | skip
      obtain ⟨rfl, hm⟩ := hm
      refine wp_block (wp_mono (ih (.code c :: .inB id :: m) ⟨rfl, rfl, hm⟩ ⟨hs.1, hs.2.1, hs.2.2⟩ X a hr he hk hx) ?_)
      intro e a w hh
      cases e <;> exact hh
  | inB h ih =>
    intro m hm hs X a hr he hk hx
    cases m with
    | nil => exact hm.elim
    | cons x m =>
      cases x <;> first | exact hm.elim | skip
      obtain ⟨rfl, hm⟩ := hm
      exact ih m hm hs X a hr he hk hx
  | @exit id k k' s hk' h ih =>
    intro m hm hs X a hr he hk hx
    cases m with
    | nil => exact hm.elim
    | cons x m =>
      cases x <;> first | exact hm.elim | skip
      obtain ⟨rfl, hm⟩ := hm
      obtain ⟨m', h1, h2, h3, h4⟩ := exit_match (P := P) (Fin := Fin) hk' hm hs.2.2
      exact wp_exit (h3 a X.w (ih m' h1 h2 X a hr he (h4 X a hk) hx))
  | @cond c x y k s b hc ht hf iht ihf =>
    intro m hm hs X a hr he hk hx
    cases m with
    | nil => exact hm.elim
    | cons z m =>
      cases z <;> first | exact hm.elim | skip
      obtain ⟨rfl, hm⟩ := hm
      have hv := hr.ev c
      rw [hc] at hv
      have ho := (Bool.and_eq_true _ _ ▸ (show (okC x && okC y) = true from hs.1) : _ ∧ _)
      have hw : ∀ d ∈ wr x ++ wr y, d < G.N ∧ ¬ KeepIn m d := hs.2.1
      exact wp_cond_split hv.bool_inv (fun hb => iht hb (.code x :: m) ⟨rfl, hm⟩ ⟨ho.1, fun d hd => hw d (List.mem_append_left _ hd), hs.2.2⟩ X a hr he hk hx)
        (fun hb => ihf hb (.code y :: m) ⟨rfl, hm⟩ ⟨ho.2, fun d hd => hw d (List.mem_append_right _ hd), hs.2.2⟩ X a hr he hk hx)
  | @region id ops k s h ih =>
    intro m hm hs X a hr he hk hx
    cases m with
    | nil => exact hm.elim
    | cons x m =>
      cases x <;> first | exact hm.elim | skip
      obtain ⟨rfl, hm⟩ := hm
      have := ih (.ops ops.toList ops.toList :: m) ⟨rfl, rfl, hm⟩ ⟨hs.2.1, hs.2.2⟩ X a hr he hk hx
      exact wp_region_list this
  | @draw id ops k s hs iv hok rs hps s' hd hiv h ih =>
    intro m hm hs' X a hr he hk hx
    cases m with
    | nil => exact hm.elim
    | cons x m =>
      cases x <;> first | exact hm.elim | skip
      obtain ⟨rfl, hm⟩ := hm
      exact wp_draw hE hok hd hiv (m := m) hs'.2.1 (fun X a h1 h2 h3 h4 => ih m hm hs'.2.2 X a h1 h2 h3 h4) hr he hk hx
  | @ops0 all k s h ih =>
    intro m hm hs X a hr he hk hx
    cases m with
    | nil => exact hm.elim
    | cons x m =>
      cases x <;> first | exact hm.elim | skip
      obtain ⟨rfl, rfl, hm⟩ := hm
      show wpList P all.toArray (mkQ Fin (sem P Fin m)) [] a X.w
      exact ih m hm hs.2 X a hr he hk hx
  | @ops1 all dst op type pos after os k s p v hp nx hst hq h ih =>
    intro m hm hs X a hr he hk hx
    cases m with
    | nil => exact hm.elim
    | cons x m =>
      cases x <;> first | exact hm.elim | skip
      obtain ⟨rfl, rfl, hm⟩ := hm
      have hwr : ∀ d, dst = some d → d < G.N ∧ ¬ KeepIn m d := fun d hd => hs.1 d (by simp [wrO, hd])
      have hwos : ∀ d ∈ wrO os, d < G.N ∧ ¬ KeepIn m d := fun d hd => hs.1 d (by cases dst <;> simp [wrO, hd])
      show wpList P all.toArray (mkQ Fin (sem P Fin m)) (⟨dst, op, type, pos, after, none⟩ :: os) a X.w
      refine wpList_plain rfl fun K hK => ?_
      have := stepW_sound (G := G) (o := ⟨dst, op, type, pos, after, none⟩) hE he hr.wr (fun x _ => hr.ev x) hr.hp.symm hr.nx.symm hst hq
      refine this K _ fun X' u e1 w1 hh1 hn1 hv1 => hK _ _ ?_
      exact ih (.ops all os :: m) ⟨rfl, rfl, hm⟩ ⟨hwos, hs.2⟩ X' _ (hr.put e1 w1 hh1 hn1 (fun d hd => (hwr d hd).1) hv1) (e1.ety.trans he)
        (Kept.put (m := .ops all os :: m) (Kept.ext (m := .ops all os :: m) hk hr.wr e1) fun d hd hkk => (hwr d hd).2 hkk) (xt hr.wr hx e1)
  | @opsP all dst op type pos after j want os k s g p v hg hst hq h ih =>
    intro m hm hs X a hr he hk hx
    cases m with
    | nil => exact hm.elim
    | cons x m =>
      cases x <;> first | exact hm.elim | skip
      obtain ⟨rfl, rfl, hm⟩ := hm
      have hwr : ∀ d, dst = some d → d < G.N ∧ ¬ KeepIn m d := fun d hd => hs.1 d (by simp [wrO, hd])
      have hwos : ∀ d ∈ wrO os, d < G.N ∧ ¬ KeepIn m d := fun d hd => hs.1 d (by cases dst <;> simp [wrO, hd])
      have hwant := gval_wanted hr hg
      show wpList P all.toArray (mkQ Fin (sem P Fin m)) (⟨dst, op, type, pos, after, some (j, want)⟩ :: os) a X.w
      refine wpList_step fun K hK => ?_
      have hgo : ∀ X' u, Ext X X' → WRel X' G → X'.hp = s.hp → X'.nx = s.nx → RelV X' (.opt g v) u → K (a.put dst u) X'.w := fun X' u e1 w1 hh1 hn1 hv1 => hK _ _ (
        ih (.ops all os :: m) ⟨rfl, rfl, hm⟩ ⟨hwos, hs.2⟩ X' _ (hr.put e1 w1 hh1 hn1 (fun d hd => (hwr d hd).1) hv1) (e1.ety.trans he)
          (Kept.put (m := .ops all os :: m) (Kept.ext (m := .ops all os :: m) hk hr.wr e1) fun d hd hkk => (hwr d hd).2 hkk) (xt hr.wr hx e1))
      show if (yielded all.toArray a.tmps j == some want) = true then _ else _
      rw [hwant]
      cases g with
      | true =>
        rw [if_pos rfl, oper_guard]
        obtain ⟨hq1, hq2⟩ := cjo_all (hq rfl)
        rw [← hr.hp] at hst
        have := stepP_sound (G := G) (o := ⟨dst, op, type, pos, after, none⟩) hE he hr.wr (evx_rel hr hq1) hst hq2
        exact this K _ fun X' u e1 w1 hh1 hn1 hv1 => hgo X' u e1 w1 (hh1.trans hr.hp) (hn1.trans hr.nx) (.opt _ _ _ (fun _ => hv1) (fun h => by cases h))
      | false =>
        rw [if_neg (by simp)]
        exact hgo X undef (.refl X) hr.wr hr.hp hr.nx (.opt _ _ _ (fun h => by cases h) (fun _ => rfl))
  | @opsG all dst op type pos after j want os k s g p v hp nx hg hst hq ht hf iht ihf =>
    intro m hm hs X a hr he hk hx
    cases m with
    | nil => exact hm.elim
    | cons x m =>
      cases x <;> first | exact hm.elim | skip
      obtain ⟨rfl, rfl, hm⟩ := hm
      have hwr : ∀ d, dst = some d → d < G.N ∧ ¬ KeepIn m d := fun d hd => hs.1 d (by simp [wrO, hd])
      have hwos : ∀ d ∈ wrO os, d < G.N ∧ ¬ KeepIn m d := fun d hd => hs.1 d (by cases dst <;> simp [wrO, hd])
      have hwant := gval_wanted hr hg
      show wpList P all.toArray (mkQ Fin (sem P Fin m)) (⟨dst, op, type, pos, after, some (j, want)⟩ :: os) a X.w
      refine wpList_step fun K hK => ?_
      show if (yielded all.toArray a.tmps j == some want) = true then _ else _
      rw [hwant]
      cases g with
      | true =>
        rw [if_pos rfl, oper_guard]
        have hst' := hst rfl
        have hreq : ∀ q, reqx op s.fr = some q → q := by
          have hq' := hq rfl
          unfold stepW at hst'
          split at hst'
          · cases hst'
            exact (cjo_all hq').1
          · split at hst'
            · cases hst'
              exact (cjo_all hq').1
            · cases hst'
        have := stepW_sound (G := G) (o := ⟨dst, op, type, pos, after, none⟩) hE he hr.wr (evx_rel hr hreq) hr.hp.symm hr.nx.symm hst' (hq rfl)
        refine this K _ fun X' u e1 w1 hh1 hn1 hv1 => hK _ _ ?_
        exact iht rfl (.ops all os :: m) ⟨rfl, rfl, hm⟩ ⟨hwos, hs.2⟩ X' _ (hr.put e1 w1 hh1 hn1 (fun d hd => (hwr d hd).1) hv1) (e1.ety.trans he)
          (Kept.put (m := .ops all os :: m) (Kept.ext (m := .ops all os :: m) hk hr.wr e1) fun d hd hkk => (hwr d hd).2 hkk) (xt hr.wr hx e1)
      | false =>
        rw [if_neg (by simp)]
        refine hK _ _ ?_
        exact ihf rfl (.ops all os :: m) ⟨rfl, rfl, hm⟩ ⟨hwos, hs.2⟩ X _ (hr.put (.refl X) hr.wr hr.hp hr.nx (fun d hd => (hwr d hd).1) (.any _)) he
          (Kept.put (m := .ops all os :: m) hk fun d hd hkk => (hwr d hd).2 hkk) hx
  | @loop c k s live keep bx hmk I n h0 h ih =>
    intro m hm hs X a hr he hk hx
    cases m with
    | nil => exact hm.elim
    | cons x m =>
      cases x <;> first | exact hm.elim | skip
      obtain ⟨rfl, hm⟩ := hm
      obtain ⟨hmk1, hsome⟩ := (Bool.and_eq_true _ _ ▸ hmk : _ ∧ _)
      obtain ⟨hdj, hnd⟩ := (Bool.and_eq_true _ _ ▸ hmk1 : _ ∧ _)
      have hdj' : ∀ t ∈ keep, t ∉ wr c := fun t ht hc => by
        have := List.all_eq_true.1 hdj t ht
        simp [hc] at this
      let vals : Nat → Value := fun t => a.tmps.getD t undef
      let Inv : Nat → Act → World → Prop := fun i a' w' => ∃ vs bs X'', I i vs bs ∧ X''.w = w' ∧ SRel X'' G (part live keep bx s vs bs) a' ∧ Ext X X'' ∧ (∀ t ∈ keep, a'.tmps.getD t undef = vals t) ∧ Kept m X'' a' ∧ X''.ety = E.ety
      have mk : ∀ i s' X' a', SRel X' G s' a' → Ext X X' → (∀ t ∈ keep, a'.tmps.getD t undef = vals t) → Kept m X' a' → meet live bx s' (I i) → Inv i a' X'.w := by
        intro i s' X' a' hr' e1 hk1 hk2 hmeet
        obtain ⟨vs, bs, X'', p1, p2, p3, p4⟩ := part_rel hr hr' e1 hnd hsome hk1 hmeet
        exact ⟨vs, bs, X'', p1, p2, p4, p3, hk1, Kept.join hk hk2 hr.wr p3, p3.ety.trans he⟩
      refine wp_loopI Inv n (mk n s X a hr (.refl X) (fun _ _ => rfl) hk h0) ?_
      rintro i a' w' ⟨vs, bs, X'', hI, rfl, hr'', e'', hkk, hkm, hety⟩
      let C : Act → World → Prop := fun a w => ∃ j, j < i ∧ Inv j a w
      have hsafe : Safe G.N (.code c :: .stop keep vals X C :: m) := by
        refine ⟨hs.1, fun d hd => ⟨(hs.2.1 d hd).1, fun hh => ?_⟩, hs.2.2⟩
        rcases hh with hh | hh
        · exact hdj' d hh hd
        · exact (hs.2.1 d hd).2 hh
      have hmatch : Match G (.code c :: .back live bx I i :: k) (.code c :: .stop keep vals X C :: m) :=
        ⟨rfl, fun j hj s1 X1 a1 hr1 hk1 hmeet => ⟨j, hj, mk j s1 X1 a1 hr1 hk1.1 hk1.2.1 hk1.2.2 hmeet⟩, hm⟩
      refine wp_mono (ih i vs bs hI (.code c :: .stop keep vals X C :: m) hmatch hsafe X'' a' hr'' hety ⟨e'', hkk, hkm⟩ (xt hr.wr hx e'')) ?_
      intro e a w hh
      cases e <;> exact hh
  | @back live bx I n k s i hi h =>
    intro m hm hs X a hr he hk hx
    cases m with
    | nil => exact hm.elim
    | cons x m =>
      cases x <;> first | exact hm.elim | skip
      obtain ⟨hm1, hm⟩ := hm
      exact hm1 i hi s X a hr hk h
  | @cut c k s live keep bx hmk M h0 h ih0 ih =>
    intro m hm hs X a hr he hk hx
    cases m with
    | nil => exact hm.elim
    | cons x m =>
      cases x <;> first | exact hm.elim | skip
      obtain ⟨rfl, hm⟩ := hm
      obtain ⟨hmk1, hsome⟩ := (Bool.and_eq_true _ _ ▸ hmk : _ ∧ _)
      obtain ⟨hdj, hnd⟩ := (Bool.and_eq_true _ _ ▸ hmk1 : _ ∧ _)
      have hdj' : ∀ t ∈ keep, t ∉ wr c := fun t ht hc => by
        have := List.all_eq_true.1 hdj t ht
        simp [hc] at this
      let vals : Nat → Value := fun t => a.tmps.getD t undef
      have hsafe : Safe G.N (.code c :: .stop keep vals X (sem P Fin m).1 :: m) := by
        refine ⟨hs.1, fun d hd => ⟨(hs.2.1 d hd).1, fun hh => ?_⟩, hs.2.2⟩
        rcases hh with hh | hh
        · exact hdj' d hh hd
        · exact (hs.2.1 d hd).2 hh
      have hmatch : Match G (.code c :: .join live bx M :: k) (.code c :: .stop keep vals X (sem P Fin m).1 :: m) := by
        refine ⟨rfl, fun s1 X1 a1 hr1 hk1 hmeet => ?_, hm⟩
        obtain ⟨vs, bs, X'', p1, p2, p3, p4⟩ := part_rel hr hr1 hk1.1 hnd hsome hk1.2.1 hmeet
        have := ih vs bs p1 m hm hs.2.2 X'' a1 p4 (p3.ety.trans he) (Kept.join hk hk1.2.2 hr.wr p3) (xt hr.wr hx p3)
        rw [p2] at this
        exact this
      refine wp_mono (ih0 (.code c :: .stop keep vals X (sem P Fin m).1 :: m) hmatch hsafe X a hr he ⟨.refl X, fun _ _ => rfl, hk⟩ hx) ?_
      intro e a w hh
      cases e <;> exact hh
  | @join live bx M k s h =>
    intro m hm hs X a hr he hk hx
    cases m with
    | nil => exact hm.elim
    | cons x m =>
      cases x <;> first | exact hm.elim | skip
      obtain ⟨hm1, hm⟩ := hm
      exact hm1 s X a hr hk h
end
end Go.Ab
/- The engine, part Af: a body that runs in the engine is a contract of its function. -/
namespace Go.Ab
open Go
section
variable {P : Program} {E : Env} {X Y Z : Ctx} {G : Beg} {o : Oper} {a : Act}
/-- A place is set aside. -/
abbrev reserve (X : Ctx) (v : Value) : Ctx := { X with nx := X.nx + 1, ob := fun n => if n = X.nx then ⟨v, fun _ => False, .u8⟩ else X.ob n }
theorem reserve_same (v : Value) : Same X (reserve X v) := by
  refine ⟨⟨rfl, Nat.le_succ _, fun _ h => h, fun _ _ _ => rfl, fun n hn => ?_⟩, rfl, rfl⟩
  show (if n = X.nx then _ else X.ob n).v = _ ∧ (if n = X.nx then _ else X.ob n).k = _
  rw [if_neg (by omega)]
  exact ⟨rfl, rfl⟩
theorem reserve_rel (hw : WRel X G) (v : Value) : WRel (reserve X v) G := by
  have hl : ∀ n, live (reserve X v) n → live X n ∧ (reserve X v).ob n = X.ob n := fun n h => by
    have h' : live X n := h
    have := live_lt hw h'
    exact ⟨h', if_neg (by omega)⟩
  refine ⟨fun n => ?_, fun n hn => hw.nxl n (Nat.le_of_succ_le hn), fun i j b h1 h2 h3 h4 => ?_, fun i b h1 h2 => ?_, hw.rl, hw.kp, hw.r0, hw.rn, fun i b h1 h2 => ?_⟩
  · by_cases hd : hgt X.hp n = .dead
    · unfold ObjOk
      rw [show (reserve X v).hp = X.hp from rfl, hd]
      trivial
    · exact ObjOk.ext (reserve_same v).ext rfl rfl rfl (hl n hd).2 (hw.ob n)
  · rw [(hl i h1).2] at h3
    rw [(hl j h2).2] at h4
    exact hw.dj i j b h1 h2 h3 h4
  · rw [(hl i h1).2] at h2
    exact hw.dr i b h1 h2
  · rw [(hl i h1).2] at h2
    exact hw.fn i b h1 h2
theorem reserve_foot (hw : WRel X G) (v : Value) : Foot X (reserve X v) (fun _ => False) := fun n b h1 h2 => by
  have h' : live X n := h1
  have := live_lt hw h'
  have e : (reserve X v).ob n = X.ob n := if_neg (by omega)
  rw [e] at h2
  exact .inl ⟨n, h', h2⟩
theorem enter1_rel (hw : WRel X G) {c : AV} {u : Value} {F : Nat → Prop} (h : RelA X c u F) (hF : Free X G F) : Bound X G (enter1 c X.hp X.nx) u F := by
  by_cases hc : ∃ cs, c = .pb cs
  · obtain ⟨cs, rfl⟩ := hc
    cases h with
    | pl c v F h hF' => cases h
    | pb cs b t' arr fs F hb hl h hd hnb hF' =>
      let v0 : Value := .pointer (some ⟨b, 0, none⟩)
      have w0 := reserve_rel hw v0
      have s0 := reserve_same (X := X) v0
      have f0 := reserve_foot hw v0
      have ha : Apart (reserve X v0) G cs arr.toList fs := (agg_apart hl h hd (fun j b hj hb => (hF' b).2 (.inr ⟨j, hj, hb⟩)) hF).step s0 f0 fun _ _ _ _ h => h
      obtain ⟨Z, z1, z2, z3, z4, z5, z6, z7⟩ := bindL_rel w0 ha
      change Z.hp = (bindL cs X.hp (X.nx + 1)).2.1 at z1
      change Z.nx = (bindL cs X.hp (X.nx + 1)).2.2 at z2
      change (bindL cs X.hp (X.nx + 1)).1.length = _ at z6
      change ∀ (j : Nat) (c : AV) (u : Value), (bindL cs X.hp (X.nx + 1)).1[j]? = some c → _ at z7
      have hidZ : X.nx < Z.nx := Nat.lt_of_lt_of_le (Nat.lt_succ_self _) z4.ext.nx
      have hold : X.nx < Z.nx → v0 = (Z.ob X.nx).v ∧ (Z.ob X.nx).k = (Z.ob X.nx).k := fun _ => ⟨by rw [(z4.ext.ob X.nx (Nat.lt_succ_self _)).1]; simp, rfl⟩
      have hfr : Free Z G (fun n => n = b) := ((hF.sub (F' := fun n => n = b) fun n hn => (hF' n).2 (.inl hn)).foot f0 s0.w s0.R fun _ _ h => h).foot z5 z4.w z4.R fun n hn hn' => by
        subst hn
        obtain ⟨j, hj, hb'⟩ := hn'
        exact hnb j hj hb'
      refine ⟨setC Z X.nx (.box 0 (bindL cs X.hp (X.nx + 1)).1) ⟨v0, fun n => n = b, (Z.ob X.nx).k⟩ Z.nx, by show hput _ _ Z.hp = _; rw [z1]; rfl, z2, ?_, (s0.trans z4).trans (set_same (Nat.le_refl _) hold), ?_, ?_⟩
      · exact setBox_rel (t' := t') (arr := arr) z3 (Nat.le_refl _) hidZ hold hfr (by rw [z4.w]; exact hb) (by rw [z6]; simp) (fun j c u hj hu => z7 j c u hj (by simpa using hu))
      · exact ((f0.trans z5).trans set_foot).mono fun n hn => (hF' n).2 (hn.elim (fun h => h.elim (fun h => h.elim) (fun ⟨j, hj, h⟩ => .inr ⟨j, hj, h⟩)) .inl)
      · exact .ptr _ _ _ hidZ ⟨b, by simp [v0], rfl⟩
  · have e : enter1 c X.hp X.nx = bindV c X.hp X.nx := by cases c <;> first | rfl | exact absurd ⟨_, rfl⟩ hc
    rw [e]
    exact bindV_rel hw h hF
theorem enterL_rel (hw : WRel X G) {cs : List AV} {us : List Value} {fs : Nat → Nat → Prop} (h : Apart X G cs us fs) : BoundL X G (enterL cs X.hp X.nx) us (fun b => ∃ j, j < cs.length ∧ fs j b) :=
  binds_rel (f := enter1) (bl := enterL) (fun _ _ => rfl) (fun _ _ _ _ => rfl) (fun hw _ _ _ h hF => enter1_rel hw h hF) hw h
theorem gt_slots : ∀ (vs : List AV) (i n : Nat), gt (slots i vs) n = if i ≤ n then (vs[n - i]?).getD .any else .any
  | [], i, n => by simp [slots, gt]
  | v :: vs, i, n => by
    show (if i = n then v else gt (slots (i + 1) vs) n) = _
    rw [gt_slots vs (i + 1) n]
    by_cases h : i = n
    · subst h
      rw [if_pos rfl, if_pos (Nat.le_refl _), Nat.sub_self]
      rfl
    · rw [if_neg h]
      by_cases h2 : i + 1 ≤ n
      · rw [if_pos h2, if_pos (by omega)]
        have : n - i = (n - (i + 1)) + 1 := by omega
        rw [this]
        rfl
      · rw [if_neg h2]
        by_cases h3 : i ≤ n
        · omega
        · rw [if_neg h3]
/-- The results are read. -/
theorem res1_rel (hE : EnvOk P E) {s : St} (h : SRel X G s a) {r : ResultVar} {v : AV} (hr : res1 E s r = some v) :
    ∃ u, ((match r with | .tmp t => pure (a.tmps.getD t undef) | .cell b t => do loadVar t (← asAddr (a.tmps.getD b undef))) : Sem Value).run P X.w = .ok u X.w ∧ RelV X v u := by
  cases r with
  | tmp t =>
    cases hr
    exact ⟨_, rfl, h.fr t⟩
  | cell b ty =>
    simp only [res1] at hr
    split at hr
    · rename_i id off hb
      split at hr
      · rename_i t cs hbx
        have hv := h.fr b
        rw [hb] at hv
        obtain ⟨g, arr, t', e1, _, _, _, _, hc⟩ := box_cells h.wr hv (by rw [h.hp]; exact hbx)
        obtain ⟨u, hu, hrel⟩ := ld_sound (X := X) (g := g) (b := 0) hE hr (fun j c hj => by obtain ⟨u, _, h2, h3⟩ := hc j c hj; exact ⟨u, h2, h3⟩)
        refine ⟨u, ?_, hrel⟩
        simp only [e1, asAddr, Sem.run_bind, Sem.run_pure, Result.andThen_ok]
        exact hu
      · cases hr
    · cases hr
theorem resL_rel (hE : EnvOk P E) {s : St} (h : SRel X G s a) : ∀ {rs : List ResultVar} {l : List AV}, resL E s rs = some l →
    ∃ us, (rs.mapM (fun r => (match r with | .tmp t => pure (a.tmps.getD t undef) | .cell b t => do loadVar t (← asAddr (a.tmps.getD b undef)) : Sem Value))).run P X.w = .ok us X.w ∧ l.length = us.length ∧ ∀ (j : Nat) (c : AV) (u : Value), l[j]? = some c → us[j]? = some u → RelV X c u
  | [], l, hl => by cases hl; exact ⟨[], by simp, rfl, fun j c u h => by simp at h⟩
  | r :: rs, l, hl => by
    simp only [resL] at hl
    cases h1 : res1 E s r with
    | none => rw [h1] at hl; cases hl
    | some v =>
    rw [h1] at hl
    simp only at hl
    cases h2 : resL E s rs with
    | none => rw [h2] at hl; cases hl
    | some l' =>
    rw [h2] at hl
    cases hl
    obtain ⟨u, hu, hr⟩ := res1_rel hE h h1
    obtain ⟨us, hus, hlen, hrel⟩ := resL_rel hE h h2
    refine ⟨u :: us, ?_, by simp [hlen], fun j c u' hj hu' => ?_⟩
    · rw [List.mapM_cons]
      simp only [Sem.run_bind]
      rw [hu]
      simp only [Result.andThen_ok, hus, Sem.run_pure]
    · cases j with
      | zero => simp at hj hu'; subst hj; subst hu'; exact hr
      | succ j => exact hrel j c u' (by simpa using hj) (by simpa using hu')
theorem results_rel (hE : EnvOk P E) {s : St} (h : SRel X G s a) {fn : Func} {l : List AV} (hl : resL E s fn.results.toList = some l) : ∃ v, (results fn a.tmps).run P X.w = .ok v X.w ∧ RelV X (resV l) v := by
  obtain ⟨us, h1, h2, h3⟩ := resL_rel hE h hl
  have hrun : (results fn a.tmps).run P X.w = .ok (if h : us.toArray.size = 1 then us.toArray[0] else .tuple us.toArray) X.w := by
    unfold results
    rw [Array.mapM_eq_mapM_toList]
    simp only [Sem.run_bind, Sem.run_map]
    erw [h1]
    rfl
  refine ⟨_, hrun, ?_⟩
  match l, us, h2, h3 with
  | [], [], _, _ => exact .tup [] #[] rfl (fun j c u h => by simp at h)
  | [v], [u], _, h3 => exact h3 0 v u rfl rfl
  | v1 :: v2 :: l, u1 :: u2 :: us, h2, h3 =>
    rw [dif_neg (by simp)]
    exact .tup _ _ (by simpa using h2) (fun j c u hj hu => h3 j c u hj (by simpa using hu))
end
end Go.Ab
/- The engine, part Ag: the contract of a function, from its body. -/
namespace Go.Ab
open Go
section
variable {P : Program} {E : Env} {X Y Z : Ctx} {G : Beg} {o : Oper} {a : Act}
theorem outV_rel {c : AV} {u : Value} {F : Nat → Prop} (h : RelA X c u F) {Rc : Nat → Prop} (hR : ∀ b, X.R b → Rc b) : ∃ F', (∀ b, F' b → F b) ∧ RelA (ctx0 X.ety X.w Rc) (outV c) u F' := by
  by_cases hc : ∃ cs, c = .tup cs
  · obtain ⟨cs, rfl⟩ := hc
    cases h with
    | tup cs vs fs F hl h hd hF =>
      obtain ⟨fs', h1, h2⟩ := outs_rel (us := vs.toList) (fun h _ hR => out1_rel h hR) (by simpa using hl) (fun j c u hj hu => h j c u hj (by simpa using hu)) hR
      refine ⟨fun b => ∃ j, j < cs.length ∧ fs' j b, fun b ⟨j, hj, hb⟩ => (hF b).2 ⟨j, hj, h1 j b hb⟩, ?_⟩
      exact .tup _ vs fs' _ (by simpa using hl) (fun j c u hj hu => h2 j c u hj (by simpa using hu)) (fun j k b hj hk e1 e2 => hd j k b (by simpa using hj) (by simpa using hk) (h1 j b e1) (h1 k b e2)) (fun b => by simp)
    | pl c v F h hF =>
      cases h with
      | tup cs vs hl h =>
        obtain ⟨fs', h1, h2⟩ := outs_rel (fs := fun _ _ => False) (us := vs.toList) (fun h _ hR => out1_rel h hR) (by simpa using hl) (fun j c u hj hu => .pl _ _ _ (h j c u hj (by simpa using hu)) fun _ h => h) hR
        refine ⟨fun _ => False, fun _ h => h.elim, ?_⟩
        exact .tup _ vs fs' _ (by simpa using hl) (fun j c u hj hu => h2 j c u hj (by simpa using hu)) (fun j k b _ _ e1 _ => (h1 j b e1).elim) (fun b => ⟨fun h => h.elim, fun ⟨j, _, hb⟩ => h1 j b hb⟩)
  · have e : outV c = out1 c := by cases c <;> first | rfl | exact absurd ⟨_, rfl⟩ hc
    rw [e]
    exact out1_rel h hR
theorem outs1_pass (v : AV) (hp : Hp) : outs1 hp v = pass1 .io .sc v hp := by
  cases v with
  | ptr id off =>
    cases off with
    | zero =>
      have h : ∀ x, hgt hp id = x → outs1 hp (.ptr id 0) = pass1 .io .sc (.ptr id 0) hp := by
        intro x hx
        unfold outs1 pass1
        simp only [hx]
        cases x <;> rfl
      exact h _ rfl
    | succ n => rfl
  | _ => rfl
theorem outsA_rel : ∀ {ms : List Md} {pv : List AV} {us : List Value} {X : Ctx}, WRel X G → pv.length = us.length → (∀ (j : Nat) (c : AV) (u : Value), pv[j]? = some c → us[j]? = some u → RelV X c u) →
    ∃ fs : Nat → Nat → Prop, (outsA ms pv X.hp).length = (inouts ms us).length ∧ (∀ (j : Nat) (c : AV) (u : Value), (outsA ms pv X.hp)[j]? = some c → (inouts ms us)[j]? = some u → RelA (ctx0 X.ety X.w X.R) c u (fs j)) ∧
      (∀ j k b, j < (outsA ms pv X.hp).length → k < (outsA ms pv X.hp).length → fs j b → fs k b → j = k) ∧ ∀ j b, j < (outsA ms pv X.hp).length → fs j b → ∃ id, live X id ∧ (X.ob id).F b
  | [], pv, us, X, hw, hl, hr => ⟨fun _ _ => False, by cases pv <;> cases us <;> rfl, fun j c u h => by cases pv <;> simp [outsA] at h, fun _ _ _ _ _ h => h.elim, fun _ _ _ h => h.elim⟩
  | m :: ms, [], [], X, hw, hl, hr => ⟨fun _ _ => False, rfl, fun j c u h => by simp [outsA] at h, fun _ _ _ _ _ h => h.elim, fun _ _ _ h => h.elim⟩
  | m :: ms, [], _ :: _, X, hw, hl, hr => by cases hl
  | m :: ms, _ :: _, [], X, hw, hl, hr => by cases hl
  | m :: ms, v :: pv, u :: us, X, hw, hl, hr => by
    have hr' : ∀ (j : Nat) (c : AV) (u : Value), pv[j]? = some c → us[j]? = some u → RelV X c u := fun j c u hj hu => hr (j + 1) c u (by simpa using hj) (by simpa using hu)
    cases m with
    | rd => exact outsA_rel (ms := ms) hw (by simpa using hl) hr'
    | tk => exact outsA_rel (ms := ms) hw (by simpa using hl) hr'
    | io =>
      have hp1 := pass1_rel (m := .io) (p := .sc) hw (by simp) (hr 0 v u rfl rfl)
      rw [← outs1_pass] at hp1
      obtain ⟨F, h1, h2, h3, h4, h5, h6⟩ := hp1
      obtain ⟨fs, k1, k2, k3, k4⟩ := outsA_rel (ms := ms) (pv := pv) (us := us) h1 (by simpa using hl) (fun j c u hj hu => (hr' j c u hj hu).ext h2.ext)
      obtain ⟨F', hF', hra⟩ := h4 X.R (fun _ h => h)
      have heq : outsA (.io :: ms) (v :: pv) X.hp = (outs1 X.hp v).1 :: outsA ms pv (outs1 X.hp v).2 := rfl
      rw [heq]
      show ∃ fs : Nat → Nat → Prop, _ = (u :: inouts ms us).length ∧ (∀ (j : Nat) (c : AV) (w : Value), _ → (u :: inouts ms us)[j]? = some w → _) ∧ _
      refine ⟨consF F' fs, by simp [k1], fun j c w hj hu => ?_, fun j k b hj hk e1 e2 => ?_, fun j b hj e1 => ?_⟩
      · cases j with
        | zero => simp at hj hu; subst hj; subst hu; exact hra
        | succ j => exact k2 j c w (by simpa using hj) (by simpa using hu)
      · have hd : ∀ j, j < (outsA ms pv (outs1 X.hp v).2).length → fs j b → F' b → False := fun j hj e1 e2 => by
          obtain ⟨id, l1, l2⟩ := k4 j b hj e1
          exact h5.nl id b l1 l2 (hF' b e2)
        cases j with
        | zero => cases k with
          | zero => rfl
          | succ k => exact (hd k (by simpa using hk) e2 e1).elim
        | succ j => cases k with
          | zero => exact (hd j (by simpa using hj) e1 e2).elim
          | succ k => exact congrArg (· + 1) (k3 j k b (by simpa using hj) (by simpa using hk) e1 e2)
      · cases j with
        | zero => exact h6 b (hF' b e1)
        | succ j =>
          obtain ⟨id, l1, l2⟩ := k4 j b (by simpa using hj) e1
          exact (h3 id b l1 l2).resolve_right fun h => h
/-- THE CONTRACT OF A FUNCTION, from its body. -/
theorem fnOk_of_body (hE : EnvOk P E) {f : FuncId} {fn : Func} {sp : Spec} {c : Code} (hf : P.funcs[f]? = some fn) (hb : fn.body = some c) (hs : (okC c && (wr c).all fun d => decide (d < fn.ntmps)) = true)
    (h : ∀ args p r outs, sp.run args = some (p, r, outs) → (∀ q, p = some q → q) → Body E fn sp.modes args fun r' outs' => r' = r ∧ outs' = outs) : FnOk P E.ety f sp := by
  intro args p r outs hrun hq w R vs F hargs hR hFR hFl
  obtain ⟨c', hb', hrunE⟩ := h args p r outs hrun hq
  rw [hb] at hb'
  cases hb'
  obtain ⟨ho, hw⟩ := (Bool.and_eq_true _ _ ▸ hs : _ ∧ _)
  refine calls_of_wp hf hb ?_
  -- the beginning
  let G : Beg := ⟨w, R, F, (vs ++ Array.replicate (fn.ntmps - vs.size) undef).size⟩
  have wb : WRel (ctx0 E.ety w R) G := ⟨fun _ => trivial, fun _ _ => rfl, fun _ _ _ h => absurd rfl h, fun _ _ h => absurd rfl h, hR, .refl _ _, fun _ h => h, fun _ h => .inl h, fun _ _ h => absurd rfl h⟩
  have hvs : vs = vs.toList.toArray := by simp
  rw [hvs] at hargs
  obtain ⟨fs, l1, l2, l3, l4⟩ := hargs.list
  have hap : Apart (ctx0 E.ety w R) G args vs.toList fs := ⟨l1, l2, l3, fun j hj => ⟨fun b hb => hFR b (l4 j b hj hb), fun _ _ h => absurd rfl h, fun b hb => hFl b (l4 j b hj hb), fun b hb => .inr (l4 j b hj hb)⟩⟩
  obtain ⟨X, x1, x2, x3, x4, x5, x6, x7⟩ := enterL_rel wb hap
  change X.hp = (enterL args [] 0).2.1 at x1
  change X.nx = (enterL args [] 0).2.2 at x2
  change (enterL args [] 0).1.length = _ at x6
  change ∀ (j : Nat) (c : AV) (u : Value), (enterL args [] 0).1[j]? = some c → _ at x7
  have xw : X.w = w := x4.w
  have xe : X.ety = E.ety := x4.ext.ety
  have hsrel : SRel X G ⟨slots 0 (enterL args [] 0).1, (enterL args [] 0).2.1, (enterL args [] 0).2.2⟩ { tmps := vs ++ Array.replicate (fn.ntmps - vs.size) undef, defers := [] } := by
    refine ⟨x1, x2, rfl, rfl, fun n => ?_, x3⟩
    show RelV X (gt (slots 0 (enterL args [] 0).1) n) ((vs ++ Array.replicate (fn.ntmps - vs.size) undef).getD n undef)
    rw [gt_slots, if_pos (Nat.zero_le _), Nat.sub_zero]
    cases hn : (enterL args [] 0).1[n]? with
    | none => exact .any _
    | some v =>
      have hlt : n < vs.size := by rw [← Array.length_toList, ← x6]; exact (List.getElem?_eq_some_iff.1 hn).1
      have : (vs ++ Array.replicate (fn.ntmps - vs.size) undef).getD n undef = vs[n] := by
        rw [Array.getD_eq_getD_getElem?, Array.getElem?_append_left hlt, Array.getElem?_eq_getElem hlt]
        rfl
      rw [this]
      exact x7 n v vs[n] hn (by simp [hlt])
  let Rr : Ending → World → Prop := fun e w' => ∃ (v : Value) (R' F' : Nat → Prop), e = .returned v ∧ (∀ b, R b → R' b) ∧ (∀ b, R' b → b < w'.heap.size) ∧ (∀ b, R' b → R b ∨ w.heap.size ≤ b ∨ F b) ∧
      RelA (ctx0 E.ety w' R') (.agg (r :: outs)) (.agg (v :: inouts sp.modes vs.toList).toArray) F' ∧ (∀ b, F' b → ¬ R' b) ∧ (∀ b, F' b → w.heap.size ≤ b ∨ F b) ∧ Keep F w w'
  let Fin : Act → World → Prop := fun a w' => a.defers = [] ∧ ∃ v, (results fn a.tmps).run P w' = .ok v w' ∧ Rr (.returned v) w'
  have hfin : ∀ s X1 a, SRel X1 G s a → X1.ety = E.ety → Ext X X1 → fin E fn.results.toList sp.modes (enterL args [] 0).1 (fun r' outs' => r' = r ∧ outs' = outs) s → Fin a X1.w := by
    intro s X1 a hr he hx hfn
    unfold fin at hfn
    cases hl : resL E s fn.results.toList with
    | none => rw [hl] at hfn; exact hfn.elim
    | some l =>
    rw [hl] at hfn
    obtain ⟨hf1, hf2⟩ := hfn
    obtain ⟨v, hv, hrel⟩ := results_rel hE hr hl
    refine ⟨hr.df, v, hv, ?_⟩
    obtain ⟨Fr, t1, t2, t3, t4, t5, t6⟩ := takeV_rel hr.wr hrel
    rw [hr.hp] at t1 t2 t3 t4 t5
    generalize takeV (resV l) s.hp = T at t1 t2 t3 t4 t5 hf1 hf2
    obtain ⟨tv, hp1⟩ := T
    simp only at t1 t2 t3 t4 t5 hf1 hf2
    generalize hX2 : ({ X1 with hp := hp1 } : Ctx) = X2 at t1 t2 t3 t4 t5
    have x2h : X2.hp = hp1 := by rw [← hX2]
    have eX2 : Ext X X2 := Ext.trans (X := X) (Y := X1) (Z := X2) (fun b hb _ => hr.wr.rl b (hx.R b hb)) hx t2.ext
    obtain ⟨fs2, o1, o2, o3, o4⟩ := outsA_rel (ms := sp.modes) (pv := (enterL args [] 0).1) (us := vs.toList) t1 x6 (fun j c u hj hu => (x7 j c u hj hu).ext eX2)
    rw [x2h, hf2] at o1 o2 o3 o4
    obtain ⟨Fr', r1, r2⟩ := outV_rel t4 (Rc := X2.R) (fun _ h => h)
    rw [hf1] at r2
    have e2 : X2.ety = E.ety := t2.ext.ety.trans he
    have w2 : X2.w = X1.w := t2.w
    rw [e2, w2] at r2 o2
    have hcross : ∀ j b, j < outs.length → fs2 j b → Fr' b → False := fun j b hj e1 e2 => by
      obtain ⟨id, m1, m2⟩ := o4 j b hj e1
      exact t5.nl id b m1 m2 (r1 b e2)
    have hfoot : ∀ j b, j < (r :: outs).length → consF Fr' fs2 j b → ¬ X2.R b ∧ (w.heap.size ≤ b ∨ F b) := by
      intro j b hj hbb
      cases j with
      | zero => exact ⟨t5.nr b (r1 b hbb), t5.ok b (r1 b hbb)⟩
      | succ j =>
        obtain ⟨id, m1, m2⟩ := o4 j b (by simpa using hj) hbb
        exact ⟨t1.dr id b m1 m2, t1.fn id b m1 m2⟩
    refine ⟨v, X2.R, fun b => ∃ j, j < (r :: outs).length ∧ consF Fr' fs2 j b, rfl, t1.r0, by rw [← w2]; exact t1.rl, t1.rn, ?_, fun b ⟨j, hj, hbb⟩ => (hfoot j b hj hbb).1, fun b ⟨j, hj, hbb⟩ => (hfoot j b hj hbb).2, by rw [← w2]; exact t1.kp⟩
    refine .agg _ _ (consF Fr' fs2) _ (by simp [o1]) (fun j c u hj hu => ?_) (fun j k b hj hk e1 e2 => ?_) (fun _ => Iff.rfl)
    · cases j with
      | zero => simp at hj hu; subst hj; subst hu; exact r2
      | succ j => exact o2 j c u (by simpa using hj) (by simpa using hu)
    · cases j with
      | zero => cases k with
        | zero => rfl
        | succ k => exact (hcross k b (by simpa using hk) e2 e1).elim
      | succ j => cases k with
        | zero => exact (hcross j b (by simpa using hj) e1 e2).elim
        | succ k => exact congrArg (· + 1) (o3 j k b (by simpa using hj) (by simpa using hk) e1 e2)
  have main := run_sound (P := P) (G := G) hE (Fin := Fin) (XS := X) hfin hrunE [.code c] ⟨rfl, trivial⟩ ⟨ho, fun d hd => ⟨?_, fun h => h⟩, trivial⟩ X _ hsrel xe trivial (.refl X)
  · rw [xw] at main
    refine wp_mono (show c.wp P (mkQ Fin (Fin, fun _ _ _ => False)) _ w from main) ?_
    intro e a w' hh
    cases e with
    | normal => exact hh
    | ret => exact hh
    | _ => exact hh.elim
  · have := of_decide_eq_true (List.all_eq_true.1 hw d hd)
    show d < (vs ++ Array.replicate (fn.ntmps - vs.size) undef).size
    simp only [Array.size_append, Array.size_replicate]
    omega
end
end Go.Ab
/- The engine, part Ah: the end of a row: what 'Keep' says in the kit's words. -/
namespace Go.Ab
open Go
theorem Keep.keptBut {w w' : World} (h : Keep (fun _ => False) w w') (may : MemPlace → Prop) : w.keptBut w' may := by
  refine ⟨h.os, h.output, fun i hi => ?_⟩
  rw [h.block i hi (fun h => h)]
  cases w.heap[i]? with
  | none => rfl
  | some o => cases o <;> first | exact ⟨rfl, rfl, rfl, fun _ _ => rfl⟩ | exact .inr ⟨rfl, rfl⟩ | rfl
theorem Keep.below {w w' : World} (h : Keep (fun _ => False) w w') : RowKit.Below w.heap.size w w' := ⟨h.os, h.tape, h.output, h.size, fun k hk => h.block k hk fun h => h⟩
end Go.Ab
