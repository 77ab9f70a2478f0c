/- strings.IndexAny at two ASCII bytes, whatever the text; strings.Contains. -/
import Derived.Test.YtnnbjffppfagkaaGreatFnC
import Derived.Test.YtnnbjffppfagkaaGreatEng4
import Derived.Shelf.Strings.IndexAny
import Derived.Lib.OthersKept
import Derived.Laws.RangeAny
import Derived.Laws.Runes
import Derived.Shelf.Small.Utf8
import Derived.Deep.LoopGhost
import Derived.Shelf.RegionOpenPlain
import Derived.WalkMore
import Derived.Shelf.Strings.AsciiSet
import Derived.Shelf.Strings.IndexAnyAll
import Derived.IntWalk
import Derived.Test.YtnnbjffppfagkaaGreatShelf
set_option linter.all false
set_option linter.unusedSimpArgs false
set_option linter.unusedVariables false
set_option linter.unusedSectionVars false
namespace Go.Proofs
open Go.Shelf Go.RowKit Go.Lib
variable {P : Program} {ρ : Ren}
/-- The bytes of a rune of more than one byte are no ASCII bytes. -/
theorem decode_cont (s : ByteArray) (pos : Nat) (h : pos < s.size) (ha : 128 ≤ (s.get! pos).toNat) : ∀ k, k < (Utf8.decode s pos).2 → pos + k < s.size ∧ 128 ≤ (s.get! (pos + k)).toNat := by
  intro k hk
  cases k with
  | zero => exact ⟨h, ha⟩
  | succ k =>
    revert hk
    simp only [Utf8.decode, Nat.add_zero]
    rw [if_neg (by omega)]
    have key : ∀ j, (decide (pos + j < s.size) && (s.get! (pos + j)).toNat / 64 == 2) = true → pos + j < s.size ∧ 128 ≤ (s.get! (pos + j)).toNat := fun j hj => by
      rw [Bool.and_eq_true, decide_eq_true_eq, beq_iff_eq] at hj
      exact ⟨hj.1, by omega⟩
    split
    · rename_i h1
      rw [Bool.and_eq_true] at h1
      split
      · intro hk
        have : k = 0 := by omega
        subst this
        exact key 1 h1.2
      · intro hk; omega
    · split
      · rename_i h1
        rw [Bool.and_eq_true, Bool.and_eq_true] at h1
        split
        · intro hk
          have : k = 0 ∨ k = 1 := by omega
          rcases this with rfl | rfl
          · exact key 1 h1.1.2
          · exact key 2 h1.2
        · intro hk; omega
      · split
        · rename_i h1
          rw [Bool.and_eq_true, Bool.and_eq_true, Bool.and_eq_true] at h1
          split
          · intro hk
            have : k = 0 ∨ k = 1 ∨ k = 2 := by omega
            rcases this with rfl | rfl | rfl
            · exact key 1 h1.1.1.2
            · exact key 2 h1.1.2
            · exact key 3 h1.2
          · intro hk; omega
        · intro hk; omega
theorem noAny_add {s chars : List UInt8} {i n : Nat} (h : Lib.NoAny s chars i) (hn : ∀ (j : Nat) b, i ≤ j → j < i + n → s[j]? = some b → chars.contains b = false) : Lib.NoAny s chars (i + n) := fun j b hj hb => by
  rcases Nat.lt_or_ge j i with hlt | hge
  · exact h j b hlt hb
  · exact hn j b hge hj hb
set_option maxHeartbeats 4000000 in
set_option maxRecDepth 1000000 in
theorem Any.IndexRune_two_bad (L : Lays.n152 P ρ) (s : ByteArray) (hs : s.size = 2) (hg : ∀ i (h : i < s.size), (s[i]'h).toNat < 128) (w : World) :
    Calls P (ρ.f 152) #[.string s, .int .i32 65533] w fun e w' => e = .returned (.int .i64 (-1)) ∧ Below w.heap.size w w' := by
  have HG : Aside (∀ i (h : i < s.size), (s[i]'h).toNat < 128) := hg
  clear hg
  have t3 := L.t3; have a3 := L.a3; have z3 := L.z3; have v3 := L.v3
  have t4 := L.t4; have a4 := L.a4; have z4 := L.z4; have v4 := L.v4
  have t5 := L.t5; have a5 := L.a5; have z5 := L.z5; have v5 := L.v5
  have t9 := L.t9; have a9 := L.a9; have z9 := L.z9; have v9 := L.v9
  have t21 := L.t21; have a21 := L.a21; have z21 := L.z21; have v21 := L.v21
  go_enter L.f152, Body.n152_ntmps ρ
  go_wp2
  go_loopg [5, 6] 2 (fun g _ _ wx => ∃ i : Nat, i + g = 2 ∧ wx = w.iter s i)
  case atStart => exact ⟨0, by omega, rfl⟩
  case round =>
    obtain ⟨i, hig, rfl⟩ := hrel
    cases gk with
    | zero =>
      obtain rfl : i = 2 := by omega
      have hnx := fun ty => run_next_end (P := P) w s 2 ty (by omega)
      go_wp2
      go_ret
      exact ⟨rfl, (Below.refl _ w).alloc (Nat.le_refl _) _⟩
    | succ g =>
      have hi : i < s.size := by omega
      obtain ⟨x, hx⟩ : ∃ x : UInt8, s[i]'hi = x := ⟨_, rfl⟩
      have hx128 : x.toNat < 128 := by rw [← hx]; exact HG.out i hi
      have hnx := fun ty => run_next_ascii (P := P) w s i ty hi (by rw [hx]; exact hx128)
      rw [hx] at hnx
      clear hx
      have hne : ((x.toNat : Int) == 65533) = false := beq_eq_false_iff_ne.2 (by omega)
      go_wp2
      go_roundg g
      case measure => omega
      case rel => exact ⟨i + 1, by omega, rfl⟩
set_option maxHeartbeats 4000000 in
set_option maxRecDepth 1000000 in
theorem Any.IndexRune_two_hi (L : Lays.n152 P ρ) (s : ByteArray) (hs : s.size = 2) (hg : ∀ i (h : i < s.size), (s[i]'h).toNat < 128) (r : Int) (h0 : 128 ≤ r) (hne : r ≠ 65533) (w : World) :
    Calls P (ρ.f 152) #[.string s, .int .i32 r] w fun e w' => e = .returned (.int .i64 (-1)) ∧ Below w.heap.size w w' := by
  have HG : Aside (∀ i (h : i < s.size), (s[i]'h).toNat < 128) := hg
  clear hg
  have t3 := L.t3; have a3 := L.a3; have z3 := L.z3; have v3 := L.v3
  have t4 := L.t4; have a4 := L.a4; have z4 := L.z4; have v4 := L.v4
  have t5 := L.t5; have a5 := L.a5; have z5 := L.z5; have v5 := L.v5
  have t9 := L.t9; have a9 := L.a9; have z9 := L.z9; have v9 := L.v9
  have t21 := L.t21; have a21 := L.a21; have z21 := L.z21; have v21 := L.v21
  have mixed := L.mixed
  have e119 : ∀ args w, (callFunc (ρ.f 119) args).run P w = .ok (.enter (ρ.f 119) args) w := enters_of L.f119 (by kernel_rfl) rfl
  have e137 : ∀ args w, (callFunc (ρ.f 137) args).run P w = .ok (.enter (ρ.f 137) args) w := enters_of L.f137 (by kernel_rfl) rfl
  have hb1 : (r == 65533) = false := beq_eq_false_iff_ne.2 hne
  have hlt : ¬ r < 128 := by omega
  cases hv : Lib.validRune r
  · go_enter L.f152, Body.n152_ntmps ρ
    go_wp2_with (go_at_fn (ρ.f 119); refine (Any.utf8_ValidRune { L with } _ _).mono ?_; rintro e w' ⟨rfl, hw⟩; rw [hw, hv])
    go_ret
    exact ⟨rfl, Below.refl _ _⟩
  · have hval : Utf8.valid r = true := by
      unfold Lib.validRune at hv
      have := of_decide_eq_true hv
      unfold Utf8.valid
      simp
      omega
    obtain ⟨E2, E4, E5⟩ := encode_facts r hval h0
    obtain ⟨en, hen⟩ : ∃ en, Utf8.encode r = en := ⟨_, rfl⟩
    rw [hen] at E2 E4 E5
    have HE : Aside (∀ h : en.size - 1 < en.size, 128 ≤ (en[en.size - 1]'h).toNat) := E5
    clear E5
    have hcv := fun W => run_convert_int_string (P := P) W (ρ.t 21) (ρ.t 9) .i32 r (by rw [L.t21]; rfl) L.t9
    rw [hen] at hcv
    clear hen
    go_enter L.f152, Body.n152_ntmps ρ
    go_wp2_with (go_at_fn (ρ.f 119); refine (Any.utf8_ValidRune { L with } _ _).mono ?_; rintro e w' ⟨rfl, hw⟩; rw [hw, hv])
    have hsub : wrap64 ((en.size : Int) - 1) = (en.size : Int) - 1 := by unfold wrap64; omega
    refine wp_scope_straight ?_
    go_wp2
    go_loopg [9, 10, 11, 12] 1 (fun g v9 v10 v11 v12 wx => v9 = .int .i64 ((en.size : Int) - 1) ∧ wx = w)
    case atStart => exact ⟨rfl, rfl⟩
    case round =>
      obtain ⟨rfl, rfl⟩ := hrel
      by_cases h2 : en.size = 2
      · have hlt2 : (en.size : Int) - 1 < s.size := by omega
        obtain ⟨x, hx⟩ : ∃ x : UInt8, s[1]'(by omega) = x := ⟨_, rfl⟩
        obtain ⟨y, hy⟩ : ∃ y : UInt8, en[1]'(by omega) = y := ⟨_, rfl⟩
        have hx1 : x.toNat < 128 := by rw [← hx]; exact HG.out 1 (by omega)
        have hy1 : 128 ≤ y.toNat := by
          have := HE.out (by omega)
          simp only [h2] at this
          rw [← hy]; exact this
        have hxy : (x.toNat : Int) ≠ y.toNat := by omega
        have hen1 : (en.size : Int) - 1 = 1 := by omega
        have hxs : (s.extract 2 s.size).data.toList = [] := by
          rw [Lib.extract_data]; simp [← Lib.size_eq, hs]
        rw [hen1] at hlt2 ⊢
        go_wp2
        refine wp_scope_straight ?_
        go_wp2
        go_region_o
        go_wp2
        go_region_with_o (refine (Any.strings_IndexByte { L with } _ _ _).mono ?_; rintro e w2 ⟨rfl, rfl⟩)
        all_goals go_wp2
        all_goals try dsimp only [Exit.inBlock, Exit.then, Exit.noGoto]
        all_goals first
          | (go_ret; exact ⟨rfl, (Below.refl _ _).drew.drew⟩)
          | skip
      · have hlt2 : ¬ (en.size : Int) - 1 < s.size := by omega
        go_wp2
        go_ret
        exact ⟨rfl, Below.refl _ _⟩
set_option maxHeartbeats 8000000 in
set_option maxRecDepth 1000000 in
/-- s of at most 8 bytes, whatever they are; two ASCII bytes. -/
theorem Any.IndexAny_two_short (L : Lays.n153 P ρ) (s chars : ByteArray) (w : World) (h2 : chars.size = 2) (h8 : s.size ≤ 8) (hg : ∀ i (h : i < chars.size), (chars[i]'h).toNat < 128) :
    Calls P (ρ.f 153) #[.string s, .string chars] w fun e w' => e = .returned (.int .i64 (Lib.indexAny s.data.toList chars.data.toList)) ∧ Below w.heap.size w w' := by
  have HG : Aside (∀ i (h : i < chars.size), (chars[i]'h).toNat < 128) := hg
  have HC : Aside (∀ b : UInt8, 128 ≤ b.toNat → chars.data.toList.contains b = false) := by
    intro b hb
    cases hc : chars.data.toList.contains b with
    | false => rfl
    | true =>
      rw [List.contains_iff_mem] at hc
      obtain ⟨i, hi, he⟩ := List.getElem_of_mem hc
      have hi' : i < chars.size := by rw [Lib.size_eq]; exact hi
      have := hg i hi'
      have e2 : chars[i]'hi' = b := he
      rw [e2] at this
      omega
  clear hg
  have hemp : chars.toList.isEmpty = false := by
    rw [Lib.toList_data]
    cases h : chars.data.toList with
    | nil => have := Lib.size_eq chars; rw [h, List.length_nil] at this; omega
    | cons _ _ => rfl
  have hn1 : ((chars.size : Int) == 1) = false := beq_eq_false_iff_ne.2 (by omega)
  have h8z : decide ((8 : Int) < (s.size : Int)) = false := decide_eq_false (by omega)
  have t3 := L.t3; have a3 := L.a3; have z3 := L.z3; have v3 := L.v3
  have t4 := L.t4; have a4 := L.a4; have z4 := L.z4; have v4 := L.v4
  have t5 := L.t5; have a5 := L.a5; have z5 := L.z5; have v5 := L.v5
  have t9 := L.t9; have a9 := L.a9; have z9 := L.z9; have v9 := L.v9
  have t21 := L.t21; have a21 := L.a21; have z21 := L.z21; have v21 := L.v21
  have e152 : ∀ args w, (callFunc (ρ.f 152) args).run P w = .ok (.enter (ρ.f 152) args) w := enters_of L.f152 (by kernel_rfl) rfl
  have e226 : ∀ args w, (callFunc (ρ.f 226) args).run P w = .ok (.enter (ρ.f 226) args) w := enters_of L.f226 (by kernel_rfl) rfl
  go_enter L.f153, Body.n153_ntmps ρ
  go_wp2_with (go_at_fn (ρ.f 226); refine (Any.strings_shouldUseASCIISet { L with } _ _).mono ?_; rintro e w' ⟨rfl, hw⟩; rw [hw, h8z])
  go_loopg [9, 10] s.size (fun g _ _ wx => ∃ pos : Nat, wx.heap[w.heap.size]? = some (.stringIter s pos) ∧ Below w.heap.size w wx ∧ Lib.NoAny s.data.toList chars.data.toList pos ∧ s.size ≤ pos + g)
  case atStart => exact ⟨0, World.iter_heap w s 0, (Below.refl _ w).alloc (Nat.le_refl _) _, Lib.NoAny.zero _ _, by omega⟩
  case round =>
    obtain ⟨pos, hit, hbw, hno, hfu⟩ := hrel
    have HN : Aside (Lib.NoAny s.data.toList chars.data.toList pos) := hno
    clear hno
    by_cases hps : pos < s.size
    · obtain ⟨g', rfl⟩ : ∃ g', gk = g' + 1 := ⟨gk - 1, by omega⟩
      obtain ⟨x, hx⟩ : ∃ x : UInt8, s[pos]'hps = x := ⟨_, rfl⟩
      have hxl : s.data.toList[pos]? = some x := by rw [← hx]; exact Lib.data_getElem? s pos hps
      by_cases hx128 : x.toNat < 128
      · have hnx : ∀ ty, (Instr.next (.pointer (some ⟨w.heap.size, 0, none⟩)) true ty).run P wr = _ := fun ty => Lib.run_next_ascii_at wr w.heap.size s pos ty hit hps (by rw [hx]; exact hx128)
        rw [hx] at hnx
        have hit2 := Lib.iterAt_heap wr w.heap.size s pos (pos + 1) hit
        have hbw2 := Lib.below_iterAt hbw (k := w.heap.size) (Nat.le_refl _) s (pos + 1)
        obtain ⟨W, hWd⟩ : ∃ W, wr.iterAt w.heap.size s (pos + 1) = W := ⟨_, rfl⟩
        rw [hWd] at hnx hit2 hbw2
        have Hx : Aside (s.data.toList[pos]? = some x) := hxl
        clear hxl hx
        have hcon := Lib.contains_iff_indexByte chars.data.toList x
        have hback : ((x.toNat : Int)).toNat.toUInt8 = x := by simp
        cases hin : chars.data.toList.contains x
        · rw [hin] at hcon
          have hlt : ¬ ((0 : Int) ≤ Lib.indexByte chars.data.toList x) := of_decide_eq_false hcon.symm
          clear hcon
          go_wp2_with (go_at_fn (ρ.f 152); refine (Any.strings_IndexRune_ascii { L with } _ _ _ (by omega) (by omega)).mono ?_; rintro e w' ⟨rfl, hw⟩; rw [hw, hback])
          go_roundg g'
          case measure => omega
          case rel => exact ⟨pos + 1, hit2, hbw2, HN.out.succ Hx.out hin, by omega⟩
        · rw [hin] at hcon
          have hge : (0 : Int) ≤ Lib.indexByte chars.data.toList x := of_decide_eq_true hcon.symm
          clear hcon
          go_wp2_with (go_at_fn (ρ.f 152); refine (Any.strings_IndexRune_ascii { L with } _ _ _ (by omega) (by omega)).mono ?_; rintro e w' ⟨rfl, hw⟩; rw [hw, hback])
          go_ret
          exact ⟨by rw [Lib.indexAny_hit HN.out Hx.out hin]; rfl, hbw2⟩
      · have hxg : s.get! pos = x := by rw [← hx]; show s.data[pos]! = _; rw [getElem!_pos s.data pos hps]; rfl
        have hhi := decode_high s pos hps (by rw [hx]; omega)
        have hct := decode_cont s pos hps (by rw [hxg]; omega)
        have hle := decode_le s pos
        have hnx : ∀ ty, (Instr.next (.pointer (some ⟨w.heap.size, 0, none⟩)) true ty).run P wr = _ := fun ty => Lib.run_next_any_at wr w.heap.size s pos ty hit hps
        obtain ⟨R, hR⟩ : ∃ R, (Utf8.decode s pos).1 = R := ⟨_, rfl⟩
        obtain ⟨K, hK⟩ : ∃ K, (Utf8.decode s pos).2 = K := ⟨_, rfl⟩
        rw [hR, hK] at hnx hhi
        rw [hK] at hct
        rw [hR] at hle
        have hit2 := Lib.iterAt_heap wr w.heap.size s pos (pos + K) hit
        have hbw2 := Lib.below_iterAt hbw (k := w.heap.size) (Nat.le_refl _) s (pos + K)
        obtain ⟨W, hWd⟩ : ∃ W, wr.iterAt w.heap.size s (pos + K) = W := ⟨_, rfl⟩
        rw [hWd] at hnx hit2 hbw2
        have hltW : w.heap.size < W.heap.size := (Array.getElem?_eq_some_iff.1 hit2).1
        have hno2 : Lib.NoAny s.data.toList chars.data.toList (pos + K) := noAny_add HN.out fun j b hj1 hj2 hb => by
          obtain ⟨c1, c2⟩ := hct (j - pos) (by omega)
          have ej : pos + (j - pos) = j := by omega
          rw [ej] at c1 c2
          refine HC.out b ?_
          have : s.get! j = b := by
            rw [show s.get! j = s[j]'c1 from by show s.data[j]! = _; rw [getElem!_pos s.data j c1]; rfl]
            have := Lib.data_getElem? s j c1
            rw [this] at hb
            exact Option.some.inj hb
          rw [← this]; exact c2
        have HN2 : Aside (Lib.NoAny s.data.toList chars.data.toList (pos + K)) := hno2
        clear hno2 hct hxl hx hxg
        have cS : Calls P (ρ.f 152) #[.string chars, .int .i32 (R : Int)] W fun e w' => e = .returned (.int .i64 (-1)) ∧ Below W.heap.size W w' := by
          by_cases hbad : R = 65533
          · subst hbad
            exact Any.IndexRune_two_bad { L with } chars h2 HG.out W
          · exact Any.IndexRune_two_hi { L with } chars h2 HG.out R (by omega) (by omega) W
        clear HG HC
        go_wp2_with (go_at_fn (ρ.f 152); refine cS.mono ?_; rintro e W' ⟨rfl, hbc⟩)
        go_roundg g'
        case measure => omega
        case rel => exact ⟨pos + K, (hbc.block _ hltW).trans hit2, hbw2.trans (hbc.mono hbw2.size), HN2.out, by omega⟩
    · have hnx : ∀ ty, (Instr.next (.pointer (some ⟨w.heap.size, 0, none⟩)) true ty).run P wr = _ := fun ty => Lib.run_next_end_at wr w.heap.size s pos ty hit hps
      go_wp2
      go_ret
      refine ⟨?_, hbw⟩
      rw [Lib.indexAny_none (s := s.data.toList) (chars := chars.data.toList) (fun j b hj hb => HN.out j b (by rw [← Lib.size_eq] at hj; omega) hb)]
      rfl
end Go.Proofs

set_option maxRecDepth 20000
set_option maxHeartbeats 1000000
namespace Go.Ab
open Go Go.Proofs.Tryz
open Go.Shelf
theorem two_get {c : Str} (h2 : c.length = 2) (ha : ∀ b ∈ c, b.toNat < 128) : (⟨c.toArray⟩ : ByteArray).size = 2 ∧ (∀ i (h : i < (⟨c.toArray⟩ : ByteArray).size), ((⟨c.toArray⟩ : ByteArray)[i]'h).toNat < 128) ∧ ∀ (j : Nat) b, c[j]? = some b → b.toNat < 128 := by
  refine ⟨by rw [str_size]; exact h2, fun i h => ?_, fun j b hj => ha b (List.mem_of_getElem? hj)⟩
  have hi : i < c.length := by rw [← str_size]; exact h
  have e : (⟨c.toArray⟩ : ByteArray)[i]'h = c[i] := rfl
  rw [e]
  exact ha _ (List.getElem_mem hi)
def hasAny (c s : Str) : Bool := s.any fun b => c.contains b
theorem indexAny_any (s c : Str) : decide (0 ≤ Lib.indexAny s c) = hasAny c s := by
  induction s with
  | nil => rfl
  | cons b l ih =>
    have h1 := Lib.indexAny_ge c l
    unfold Lib.indexAny
    show _ = (c.contains b || hasAny c l)
    rw [← ih]
    cases hc : c.contains b with
    | true => simp
    | false =>
      simp only [Bool.false_eq_true, if_false, Bool.false_or]
      split
      · rename_i h
        have := beq_iff_eq.1 h
        rw [this]
      · rename_i h
        have : Lib.indexAny l c ≠ -1 := fun e => h (by rw [e]; rfl)
        rw [decide_eq_true (show 0 ≤ Lib.indexAny l c + 1 by omega), decide_eq_true (show 0 ≤ Lib.indexAny l c by omega)]
noncomputable def sp_indexAny : Spec := ⟨[.sc, .sc], [.rd, .rd], true, fun
  | [.str s, .str c] => some (some (c.length = 2 ∧ (∀ b ∈ c, b.toNat < 128) ∧ s.length < 4294967281), .int .i64 (Lib.indexAny s c), [])
  | _ => none⟩
@[push_cast] theorem sp_indexAny_ps : sp_indexAny.ps = [.sc, .sc] := rfl
@[push_cast] theorem sp_indexAny_md : sp_indexAny.modes = [.rd, .rd] := rfl
@[push_cast] theorem sp_indexAny_pure : sp_indexAny.pure = true := rfl
@[push_cast] theorem sp_indexAny_run (s c : Str) : sp_indexAny.run [.str s, .str c] = some (some (c.length = 2 ∧ (∀ b ∈ c, b.toNat < 128) ∧ s.length < 4294967281), .int .i64 (Lib.indexAny s c), []) := rfl
theorem c_indexAny : CRow P0 ety0 133 sp_indexAny := by
  refine ⟨?_, ent_of func133 rfl rfl⟩
  intro args p r outs hrun hq w R vs F hrel hR hFR hFl hG
  simp only [sp_indexAny] at hrun
  split at hrun <;> cases hrun
  rename_i s c
  obtain ⟨h2, ha, hs⟩ := hq _ rfl
  obtain ⟨u, v, rfl, ⟨_, h1⟩, ⟨_, hc⟩⟩ := args2 hrel
  cases relA_str h1
  cases relA_str hc
  obtain ⟨e1, e2, e3⟩ := two_get h2 ha
  have hsz : (⟨s.toArray⟩ : ByteArray).size = s.length := str_size _
  by_cases h8 : s.length ≤ 8
  · refine (Go.Proofs.Any.IndexAny_two_short Go.Proofs.Tryz.lays153 ⟨s.toArray⟩ ⟨c.toArray⟩ w e1 (by rw [hsz]; exact h8) e2).mono fun e w' h => ?_
    exact fin_plain (P := P0) rfl hR h.1 h.2 fun X => .int _ _
  · have h116 : (P0.info? (Go.Proofs.Tryz.lays153_ren.t 116)).map (fun i => (i.zero, i.size)) = some (some (.agg (Array.replicate 256 (.bool false))), 256) := by kernel_rfl
    refine (Go.Proofs.Any.strings_IndexAny_long Go.Proofs.Tryz.lays153 (Go.zero_of_info h116).1 (Go.zero_of_info h116).2 ⟨s.toArray⟩ ⟨c.toArray⟩ w (by omega) (by rw [hsz]; omega) (by rw [hsz]; exact hs) (by omega) e3).mono fun e w' h => ?_
    obtain ⟨h1, rfl⟩ := h
    exact fin_plain (P := P0) rfl hR h1 (((Go.RowKit.Below.refl _ _).alloc (Nat.le_refl _) _).alloc (by simp) _) fun X => .int _ _
noncomputable def sp_containsAny : Spec := ⟨[.sc, .sc], [.rd, .rd], true, fun
  | [.str s, .str c] => some (some (c.length = 2 ∧ (∀ b ∈ c, b.toNat < 128) ∧ s.length < 4294967281), .bool (hasAny c s), [])
  | _ => none⟩
@[push_cast] theorem sp_containsAny_ps : sp_containsAny.ps = [.sc, .sc] := rfl
@[push_cast] theorem sp_containsAny_md : sp_containsAny.modes = [.rd, .rd] := rfl
@[push_cast] theorem sp_containsAny_pure : sp_containsAny.pure = true := rfl
@[push_cast] theorem sp_containsAny_run (s c : Str) : sp_containsAny.run [.str s, .str c] = some (some (c.length = 2 ∧ (∀ b ∈ c, b.toNat < 128) ∧ s.length < 4294967281), .bool (hasAny c s), []) := rfl
noncomputable def e_containsAny : Env := mk [(133, sp_indexAny)] [] [] [] none
@[push_cast] theorem e_containsAny_in : e_containsAny.inl = inlF [] := rfl
@[push_cast] theorem e_containsAny_fn : e_containsAny.fnd = fndF none := rfl
@[push_cast] theorem e_containsAny_gh : e_containsAny.gh = ghOf [] := rfl
@[push_cast] theorem e_containsAny_dr : e_containsAny.dr = drOf [] := rfl
@[push_cast] theorem e_containsAny_td : e_containsAny.td = td := rfl
@[push_cast] theorem e_containsAny_eqt : e_containsAny.eqt = eqt := rfl
@[push_cast] theorem e_containsAny_cal : e_containsAny.cal = calOf [(133, sp_indexAny)] := rfl
theorem c_containsAny : CRow P0 ety0 98 sp_containsAny := CRow.of (E := e_containsAny) (mkOk (.cons c_indexAny (.nil))) func98 rfl rfl rfl (by
  intro args p r outs h hq
  simp only [sp_containsAny] at h; split at h <;> cases h
  rename_i s c
  have hz := hq _ rfl
  refine Body.intro (rs := [.tmp 4]) rfl rfl rfl ?_
  apply vc_run 1000 (stop := false) rfl; simp only [push_cast, reduceIte, Nat.reduceEqDiff, Nat.reduceAdd, Nat.reduceSub, Nat.reduceLT, Int.reduceNeg, Int.reduceLE, Int.reduceLT, Int.reduceToNat, Nat.reduceLeDiff, UInt8.reduceOfNat, UInt8.reduceOfNatLT, and_self, Nat.reduceMul, decide_true, decide_false, Bool.not_true, Bool.not_false, implies_true]
  exact ⟨hz, by rw [indexAny_any]⟩)
noncomputable def sp_containsS : Spec := ⟨[.sc, .sc], [.rd, .rd], true, fun
  | [.str s, .str c] => some (some (s.length < 4294967281), .bool (Lib.contains s c), [])
  | _ => none⟩
@[push_cast] theorem sp_containsS_ps : sp_containsS.ps = [.sc, .sc] := rfl
@[push_cast] theorem sp_containsS_md : sp_containsS.modes = [.rd, .rd] := rfl
@[push_cast] theorem sp_containsS_pure : sp_containsS.pure = true := rfl
@[push_cast] theorem sp_containsS_run (s c : Str) : sp_containsS.run [.str s, .str c] = some (some (s.length < 4294967281), .bool (Lib.contains s c), []) := rfl
theorem c_containsS : CRow P0 ety0 99 sp_containsS := by
  refine ⟨?_, ent_of func99 rfl rfl⟩
  intro args p r outs hrun hq w R vs F hrel hR hFR hFl hG
  simp only [sp_containsS] at hrun
  split at hrun <;> cases hrun
  rename_i s c
  have hs := hq _ rfl
  obtain ⟨u, v, rfl, ⟨_, h1⟩, ⟨_, hc⟩⟩ := args2 hrel
  cases relA_str h1
  cases relA_str hc
  have hsz : (⟨s.toArray⟩ : ByteArray).size = s.length := str_size _
  obtain ⟨w0, hsh, hw0⟩ := hG
  obtain ⟨m, hm⟩ := Go.Proofs.Tryz.laysM144.s1_3 w0 hsh.1
  refine (Go.Proofs.Tryz.strings_Contains ⟨s.toArray⟩ ⟨c.toArray⟩ m w (by rw [hsz]; exact hs) ((World.cell?_of_block (hw0 _ (World.block_lt_of_cell? _ _ hm)).2).trans hm)).mono fun e w' h => ?_
  obtain ⟨he, rfl⟩ := h
  exact fin_plain (P := P0) rfl hR he (Go.RowKit.Below.refl _ _) fun X => .bool _
end Go.Ab
