/- For every input the law quorumitelaw1.SipNumbers returns true: numbers come back from their bytes, wherever these stand. Conditions: none. -/
import Derived.Test.YtandenkoejbloaaFacts
import Derived.Test.YtandenkoejbloaaTold1
import Derived.Test.YtandenkoejbloaaMore
namespace Go.Proofs.Ytandenkoejbloaa
open Go Go.RowKit

theorem flat_length : ∀ l : List W, (l.flatMap putB).length = 8 * l.length
  | [] => rfl
  | x :: l => by rw [List.flatMap_cons, List.length_append, putB_length, flat_length l, List.length_cons]; omega
theorem flat_at : ∀ (l : List W) (k : Nat) (x : W) (ah : List UInt8), l[k]? = some x → wordAt (ah ++ l.flatMap putB) (ah.length + 8 * k) = x
  | [], k, x, ah, h => by simp at h
  | y :: l, 0, x, ah, h => by
    simp at h; subst h
    rw [← wordAt_drop, List.drop_append_length, List.flatMap_cons, wordAt_append _ _ _ (by rw [putB_length]; decide)]
    exact word_put y
  | y :: l, k + 1, x, ah, h => by
    have := flat_at l k x (ah ++ putB y) (by simpa using h)
    rw [List.append_assoc] at this
    rw [List.flatMap_cons, ← this]
    congr 1
    rw [List.length_append, putB_length]; omega

set_option maxRecDepth 100000 in
set_option maxHeartbeats 1600000 in
theorem walk_SipNumbers (w : World) (v0 : Value) (l : List W) (h0 : Rd w v0 (l.map wv)) (v1 : Value) (ah : List UInt8) (h1 : Rd w v1 (ah.map bv)) :
    Calls Try.prog 5 #[v0, v1] w fun e w' => e = .returned (.bool true) ∧ Fr none_ w w' := by
  obtain ⟨i0, hi, hz0, hz1, hz2⟩ := info_parts info_u8
  have H0 := Lib.hid h0
  have H1 := Lib.hid h1
  obtain ⟨ao0, cap0, rfl, hc0, hm0, _⟩ := h0
  obtain ⟨ao1, cap1, rfl, hc1, hm1, _⟩ := h1
  simp only [List.length_map] at *
  unfold maxLen at hm0 hm1
  go_enter Try.func5, Try.ntmps5
  by_cases hl : 12 < l.length
  · have hd : decide ((12 : Int) < (l.length : Int)) = true := by simp; omega
    go_wp2_with fail
    refine (told1_any _).mono ?_
    rintro e w3 ⟨rfl, hf⟩
    go_wp2
    go_ret
    exact ⟨rfl, hf⟩
  have hd : decide ((12 : Int) < (l.length : Int)) = false := by simp; omega
  by_cases ha : 9 < ah.length
  · have he : decide ((9 : Int) < (ah.length : Int)) = true := by simp; omega
    go_wp2_with fail
    refine (told1_any _).mono ?_
    rintro e w3 ⟨rfl, hf⟩
    go_wp2
    go_ret
    exact ⟨rfl, hf⟩
  have he : decide ((9 : Int) < (ah.length : Int)) = false := by simp; omega
  go_wp2_with (first | (at_builtin; go_must (refine wpList_append_b _ rfl _ _ 25 25 rfl w.heap.size 5 i0 (.int .u8 0) 1 Try.underlying25 hi hz0 hz1 hz2 rfl (.slice (some ⟨w.heap.size, 0, none⟩) 0 0) [] rfl (own_made w [] _ (by decide) _ (Nat.le_refl _)) (.slice ao1 ah.length cap1) rfl ah.length (ah.map bv) ?c1 ?c2 ?c3 ?c4 ?c5)))
  case c1 => have := src_of_rd (P := Try.prog) Try.underlying25 (H1.out.alloc (.cells #[] 5)) (bvs_one ah); rw [List.length_map] at this; exact this
  case c2 => simp [maxLen]; omega
  case c3 => simp; omega
  case c4 => simp
  intro v1 w1 ho1 hf1 hk1
  have HO1 := Lib.hid ho1
  have HF1 := Lib.hid (((Fr.refl none_ w).alloc (.cells #[] 5)).step hf1 (fun i hi h => by simp [Value.ownBlock] at h; omega))
  clear ho1 hf1 hk1
  go_wp2_with fail
  go_loopw [5, 6] (fun v i wr => ∃ k : Nat, k ≤ l.length ∧ i = .int .i64 k ∧ Own wr w.heap.size 5 v ((ah ++ (l.take k).flatMap putB).map bv) ∧ Fr none_ w wr) (fun _ i _ => l.length - (intOf i).toNat)
  case atStart => exact ⟨0, Nat.zero_le _, rfl, by simpa using HO1.out, HF1.out⟩
  case round =>
    obtain ⟨k, hk, rfl, ho, hf⟩ := hrel
    have HO := Lib.hid ho
    have HF := Lib.hid hf
    have hsz := hf.size
    have hlen : (ah ++ (l.take k).flatMap putB).length = ah.length + 8 * k := by rw [List.length_append, flat_length, List.length_take, Nat.min_eq_left hk]
    have HL := Lib.hid hlen
    clear ho hf hlen
    by_cases hlt : k < l.length
    · have hlk : (k : Int) < (l.length : Int) := by omega
      obtain ⟨b, o, hao, hb, hcell⟩ : ∃ b o, ao0 = some ⟨b, o, none⟩ ∧ b < wr.heap.size ∧ wr.cell? ⟨b, o + k, none⟩ = some (.int .u64 (u l[k])) := by
        exact (H0.out.kept HF.out (fun _ _ _ _ f => f)).at_ (j := k) (x := wv l[k]) (by simp [List.getElem?_eq_getElem hlt])
      subst hao
      generalize hx : l[k] = x at *
      have HX := Lib.hid hx
      clear hx
      go_wp2_with fail
      refine (put_any x _).mono ?_
      rintro e w2 ⟨v2, rfl, ho2, hf2⟩
      have hO := HO.out.kept hf2 (fun _ _ h => h)
      obtain ⟨ao2, cap2, rfl, _, _⟩ := ho2.shape
      have hl2 : ((putB x).map bv).length = 8 := by rw [List.length_map, putB_length]
      rw [hl2] at ho2 ⊢
      go_wp2_with (first | (at_builtin; go_must (refine wpList_append_b _ rfl _ _ 25 25 rfl w.heap.size 5 i0 (.int .u8 0) 1 Try.underlying25 hi hz0 hz1 hz2 rfl _ _ rfl hO (.slice ao2 8 cap2) rfl 8 ((putB x).map bv) ?d1 ?d2 ?d3 ?d4 ?d5)))
      case d1 => have := src_of_rd (P := Try.prog) Try.underlying25 ho2.rd (bvs_one (putB x)); rw [hl2] at this; exact this
      case d2 => rw [List.length_map, HL.out]; simp [maxLen]; omega
      case d3 => rw [List.length_map, HL.out]; omega
      case d4 => have := hf2.size; omega
      intro v3 w3 ho3 hf3 hk3
      have hF3 := HO.out.frame HF.out (Nat.le_refl _) hf2 hf3
      clear hO ho2 hf2 hf3 hk3 hl2 hcell
      have HO3 := Lib.hid ho3
      have HF3 := Lib.hid hF3
      clear ho3 hF3
      go_wp2
      go_roundw
      case rel =>
        refine ⟨k + 1, by omega, by go_num, ?_, HF3.out⟩
        have e : List.map bv (ah ++ List.flatMap putB (List.take k l)) ++ List.map bv (putB x) = List.map bv (ah ++ List.flatMap putB (List.take (k + 1) l)) := by
          simp only [List.take_succ_eq_append_getElem hlt, List.flatMap_append, List.map_append, List.flatMap_cons, List.flatMap_nil, List.append_nil, List.append_assoc, HX.out]
        rw [← e]
        simpa only [List.map_append, List.append_assoc] using HO3.out
      case measure => simp [intOf]; omega
    · obtain rfl : k = l.length := by omega
      clear hlt hk
      rw [List.take_length] at HO HL
      have ho := HO.out
      obtain ⟨ao2, cap2, rfl, hc2, hm2⟩ := ho.shape
      have hl8 : ((ah ++ l.flatMap putB).map bv).length = ah.length + 8 * l.length := by rw [List.length_map, HL.out]
      rw [hl8] at hc2 ho ⊢
      have HR := Lib.hid ho.rd
      clear HO ho HL HF1 HO1
      go_wp2_with fail
      go_loop [7] (fun i => ∃ k : Nat, k ≤ l.length ∧ i = .int .i64 k) (fun i => l.length - (intOf i).toNat)
      case atStart => exact ⟨0, Nat.zero_le _, rfl⟩
      case round =>
        obtain ⟨k, hk, rfl⟩ := hrel
        by_cases hlt : k < l.length
        · have hlk : (k : Int) < (l.length : Int) := by omega
          obtain ⟨b, o, hao, hb, hcell⟩ : ∃ b o, ao0 = some ⟨b, o, none⟩ ∧ b < wr.heap.size ∧ wr.cell? ⟨b, o + k, none⟩ = some (.int .u64 (u l[k])) := by
            exact (H0.out.kept HF.out (fun _ _ _ _ f => f)).at_ (j := k) (x := wv l[k]) (by simp [List.getElem?_eq_getElem hlt])
          subst hao
          have hat := flat_at l k l[k] ah (List.getElem?_eq_getElem hlt)
          generalize l[k] = x at *
          have HAT := Lib.hid hat
          clear hat
          have e1 : IntKind.i64.wrap (8 * (k : Int)) = 8 * (k : Int) := IntWalk.i64_in _ (by omega)
          have e2 : IntKind.i64.wrap ((ah.length : Int) + 8 * (k : Int)) = (ah.length : Int) + 8 * (k : Int) := IntWalk.i64_in _ (by omega)
          go_wp2_with fail
          refine (get_ok _ _ _ _ HR.out (by omega) (by rw [List.length_append, flat_length]; omega)).mono ?_
          rintro e w' ⟨rfl, rfl⟩
          rw [show ((ah.length : Int) + 8 * (k : Int)).toNat = ah.length + 8 * k from by omega, HAT.out]
          clear e1 e2
          go_wp2
          go_round
          case rel => exact ⟨k + 1, by omega, by go_num⟩
          case measure => simp [intOf]; omega
        · obtain rfl : k = l.length := by omega
          clear hlt hk
          go_wp2_with fail
          refine (get_bad _ _ _ _ _ (Nat.le_trans hc2 hm2) (by right; omega)).mono ?_
          rintro e w' ⟨rfl, rfl⟩
          go_wp2_with fail
          refine (told1_any _).mono ?_
          rintro e w4 ⟨rfl, hf4⟩
          have HF4 := Lib.hid (HF.out.trans hf4)
          clear hf4
          have e1 : IntKind.i64.wrap (8 * (l.length : Int)) = 8 * (l.length : Int) := IntWalk.i64_in _ (by omega)
          have e2 : IntKind.i64.wrap ((ah.length : Int) + 8 * (l.length : Int)) = (ah.length : Int) + 8 * (l.length : Int) := IntWalk.i64_in _ (by omega)
          go_wp2
          go_ret
          exact ⟨rfl, HF4.out⟩

namespace sipNumbers
open Go Go.ChangeShapes Go.WideShapes Go.ChangeAt Go.RowKit
set_option linter.unusedVariables false
set_option maxRecDepth 100000 in
theorem lifted (os : Os) (started : os.Started) (H : Type) (enc : TypeId × Value → H) :
    ReturnsInHanded {} Try.checked os 5 .any (Rows.sipNumbersSpec.pre6 enc Try.prog Try.f5 Rows.sipNumbersRow.domain false) (Rows.sipNumbersSpec.post enc Try.prog Try.f5 false true false false) := by
  refine returnsInHanded_of_change (C := Try.checked) owned started (by kernel_rfl) Try.func5
    (ChangeSpec.witness6 (enc := enc) (C := Try.checked) false ⟨#[], #[.slice none 0 0, .slice none 0 0], []⟩ 8 (by kernel_rfl) (by kernel_rfl) (by kernel_rfl) (by kernel_rfl)) ?_
  intro W base args ds gs before hval0 hW hcnd _
  have hval : ∀ (j : Nat) t v, Try.f5.params[j]? = some t → args[j]? = some v → Value.okWide Try.prog W .any base t v := hval0
  have hW' := hW
  obtain ⟨p, q, hA0, hV, rfl, hfz, hnd⟩ := hW
  have hA : DataW.TrodAll enc Try.prog W 0 (fun _ => true) true Try.f5.params.toList args.toList ds p := hA0
  rw [Try.params5] at hA hval
  obtain ⟨v0, vs0, d0, ds0, p0, q0, hargs, rfl, rfl, h0, r0⟩ := trodAll_cons hA
  obtain ⟨v1, vs1, d1, ds1, p1, q1, rfl, rfl, rfl, h1, r1⟩ := trodAll_cons r0
  obtain ⟨rfl, rfl, rfl⟩ := trodAll_nil r1
  obtain rfl : args = #[v0, v1] := by cases args; simp_all
  obtain ⟨rfl, rfl⟩ := trodVars_none hV
  have k0 := h0
  have lt0 : ∀ x ∈ p0, x.block < W.heap.size := by obtain ⟨m, hm⟩ := k0; exact DataW.trod_lt m _ _ _ hm
  have k1 := h1
  have lt1 : ∀ x ∈ p1, x.block < W.heap.size := by obtain ⟨m, hm⟩ := k1; exact DataW.trod_lt m _ _ _ hm
  obtain ⟨x0, hr0⟩ := open_words Try.underlying43 Try.underlying22 (by kernel_rfl) (hval 0 43 v0 rfl rfl) h0
  obtain ⟨x1, hr1⟩ := open_bytes Try.underlying25 Try.underlying5 (by kernel_rfl) (hval 1 25 v1 rfl rfl) h1
  clear hA0 hval0
  refine (walk_SipNumbers W v0 x0 hr0 v1 x1 hr1).mono fun e W' ⟨he, fr⟩ => ?_
  subst he
  have bel := fr.below
  exact ⟨_, rfl, _, _, _, [], _, [], hW', trodAll_mk1 (shut_bool Try.underlying4 _), (trodAll_cons_mk (Below.trod laid (by kernel_rfl) (of_decide_eq_true (by kernel_rfl)) k0 bel lt0) (trodAll_cons_mk (Below.trod laid (by kernel_rfl) (of_decide_eq_true (by kernel_rfl)) k1 bel lt1) trodAll_mk0)), rfl, bel.frame _, fun h => by cases h⟩

theorem inPlace : Try.prog.inPlace 5 = [] := inPlace_none _ _ (by kernel_rfl)
theorem closed : joinedFacts Try.prog 5 Try.f5 Rows.sipNumbersSpec Rows.sipNumbersRow = true := by
  unfold joinedFacts
  repeat' (with_reducible refine and_mk ?_ ?_)
  all_goals first
    | with_reducible exact enters
    | with_reducible exact laid
    | with_reducible exact rowed
    | with_reducible exact noStops
    | with_reducible exact noKnobs
    | with_reducible exact heard
    | (rw [lifts]; as_aux_lemma => kernel_rfl)
    | (rw [makes]; as_aux_lemma => kernel_rfl)
    | (rw [plains]; as_aux_lemma => kernel_rfl)
    | (rw [inPlace]; as_aux_lemma => kernel_rfl)
    | as_aux_lemma => kernel_rfl
theorem named : Try.prog.funcNamed Rows.sipNumbersRow.func = some 5 := by kernel_rfl
theorem isOne : (Try.f5).isInstance Try.prog Rows.sipNumbersRow.origin Rows.sipNumbersRow.targs := of_decide_eq_true (by kernel_rfl)
theorem wraps : (Try.f5).isWrapper Try.prog Rows.sipNumbersRow.wrapper Rows.sipNumbersRow.mainSum := by unfold Func.isWrapper; first | (rw [if_pos (by decide +kernel)]; kernel_rfl) | (rw [if_neg (by decide +kernel)]; exact ⟨rfl, rfl⟩)
theorem over : Rows.sipNumbersRow.holds Try.pinned (OpenSpec.ofChange Rows.sipNumbersSpec) :=
  OpenClaim.holds_of_wide 5 Try.f5 rfl rfl rfl rfl rfl rfl rfl ⟨rfl, rfl, rfl, rfl, rfl⟩ rfl rfl rfl rfl rfl named Try.func5 closed
    isOne wraps
    (fun os started H enc _ => lifted os started H enc)

/-- THE STATEMENT. -/
theorem proved : Rows.SipNumbersSaid := over
#print axioms proved
end sipNumbers
end Go.Proofs.Ytandenkoejbloaa
