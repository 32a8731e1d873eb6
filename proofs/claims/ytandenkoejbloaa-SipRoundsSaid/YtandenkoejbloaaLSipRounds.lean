/- For every input the law quorumitelaw1.SipRounds returns true: unlike words come to unlike rounds. Conditions: none. -/
import Derived.Test.YtandenkoejbloaaRows
import Derived.Test.YtandenkoejbloaaFacts
import Derived.Test.YtandenkoejbloaaTold1
namespace Go.Proofs.Ytandenkoejbloaa
open Go Go.RowKit

theorem rotl_inj {x y : W} {k : Nat} (h0 : 0 < k) (h1 : k < 64) (h : rotl x k = rotl y k) : x = y := by
  apply BitVec.eq_of_getLsbD_eq
  intro i hi
  by_cases hk : i < 64 - k
  · have := congrArg (fun z => z.getLsbD (i + k)) h
    simp only [rotl, BitVec.getLsbD_or, BitVec.getLsbD_shiftLeft, BitVec.getLsbD_ushiftRight, show i + k < 64 from by omega, show i + k - k = i from by omega, show 64 - k + (i + k) = i + 64 from by omega, show ¬ (i + k < k) from by omega, BitVec.getLsbD_of_ge x (i + 64) (by omega), BitVec.getLsbD_of_ge y (i + 64) (by omega)] at this
    simpa only [decide_true, decide_false, Bool.not_false, Bool.true_and, Bool.or_false] using this
  · have := congrArg (fun z => z.getLsbD (i - (64 - k))) h
    simp only [rotl, BitVec.getLsbD_or, BitVec.getLsbD_shiftLeft, BitVec.getLsbD_ushiftRight, show i - (64 - k) < k from by omega, show 64 - k + (i - (64 - k)) = i from by omega] at this
    simpa only [decide_true, Bool.not_true, Bool.and_false, Bool.false_and, Bool.false_or] using this
theorem xor_can {a b c : W} (h : a ^^^ c = b ^^^ c) : a = b := by
  have := congrArg (· ^^^ c) h
  simpa [BitVec.xor_assoc] using this
theorem add_can {a b c : W} (h : a + c = b + c) : a = b := by
  have := congrArg (· - c) h
  simpa using this
theorem round_inj (x y : W × W × W × W) (h : round x = round y) : x = y := by
  obtain ⟨a, b, c, d⟩ := x
  obtain ⟨a', b', c', d'⟩ := y
  simp only [round, Prod.mk.injEq] at h
  obtain ⟨h1, h2, h3, h4⟩ := h
  have c2 := rotl_inj (by decide) (by decide) h3
  rw [c2] at h2
  have b1 := rotl_inj (by decide) (by decide) (xor_can h2)
  rw [b1] at c2
  have c1 := add_can c2
  rw [h1] at h4
  have d1 := rotl_inj (by decide) (by decide) (xor_can h4)
  rw [d1] at h1
  have a1 := rotl_inj (by decide) (by decide) (add_can h1)
  rw [a1] at b1
  have e1 := rotl_inj (by decide) (by decide) (xor_can b1)
  rw [c1] at d1
  have e2 := rotl_inj (by decide) (by decide) (xor_can d1)
  rw [e1] at a1
  rw [e2] at c1
  rw [add_can a1, e1, add_can c1, e2]
def turned (m : Nat) (t : W) (x : W × W × W × W) : W × W × W × W :=
  match m with
  | 0 => (x.1 ^^^ t, x.2.1, x.2.2.1, x.2.2.2)
  | 1 => (x.1, x.2.1 ^^^ t, x.2.2.1, x.2.2.2)
  | 2 => (x.1, x.2.1, x.2.2.1 ^^^ t, x.2.2.2)
  | _ => (x.1, x.2.1, x.2.2.1, x.2.2.2 ^^^ t)
theorem xor_self_iff (a t : W) : a = a ^^^ t ↔ t = 0 := by
  constructor
  · intro h
    have := congrArg (a ^^^ ·) h
    simpa [← BitVec.xor_assoc] using this.symm
  · rintro rfl; simp
theorem turned_eq (m : Nat) (t : W) (x : W × W × W × W) : x = turned m t x ↔ t = 0 := by
  obtain ⟨a, b, c, d⟩ := x
  unfold turned
  split <;> simp only [Prod.mk.injEq, xor_self_iff, true_and, and_true]
theorem rounds_law (x y : W × W × W × W) (t : W) (h : x = y ↔ t = 0) :
    ((((((round x).1 = (round y).1 ∧ (round x).2.1 = (round y).2.1) ∧ (round x).2.2.1 = (round y).2.2.1) ∧ (round x).2.2.2 = (round y).2.2.2)) ↔ t = 0) := by
  rw [← h]
  constructor
  · rintro ⟨⟨⟨h1, h2⟩, h3⟩, h4⟩
    exact round_inj _ _ (Prod.ext h1 (Prod.ext h2 (Prod.ext h3 h4)))
  · rintro rfl; exact ⟨⟨⟨rfl, rfl⟩, rfl⟩, rfl⟩

theorem mod4 (i : Int) : ∃ m : Nat, m < 4 ∧ (IntKind.u64.wrap i).tmod 4 = (m : Int) := by
  have h0 : 0 ≤ IntKind.u64.wrap i := by rw [IntKind.wrap_u64]; omega
  rw [Int.tmod_eq_emod_of_nonneg h0]
  exact ⟨((IntKind.u64.wrap i) % 4).toNat, by omega, by omega⟩

set_option maxRecDepth 100000 in
set_option maxHeartbeats 1600000 in
theorem walk_SipRounds (w : World) (x : W × W × W × W) (i : Int) (h0 : -9223372036854775808 ≤ i) (h1 : i ≤ 9223372036854775807) (t : W) :
    Calls Try.prog 6 #[.agg #[.int .u64 (u x.1), .int .u64 (u x.2.1), .int .u64 (u x.2.2.1), .int .u64 (u x.2.2.2)], .int .i64 i, .int .u64 (u t)] w fun e w' => e = .returned (.bool true) ∧ Fr none_ w w' := by
  obtain ⟨m, hm4, hm⟩ := mod4 i
  obtain ⟨a, b, c, d⟩ := x
  have law := Lib.hid (rounds_law (a, b, c, d) (turned m t (a, b, c, d)) t (turned_eq m t (a, b, c, d)))
  go_enter Try.func6, Try.ntmps6
  obtain rfl | rfl | rfl | rfl : m = 0 ∨ m = 1 ∨ m = 2 ∨ m = 3 := by omega
  all_goals
    clear hm4
    dsimp only [turned] at law
    go_wp2_with fail
    clear hm
    refine (round_any _ _ _ _ _).mono ?_
    rintro e w' ⟨rfl, rfl⟩
    go_wp2_with fail
    refine (round_any _ _ _ _ _).mono ?_
    rintro e w' ⟨rfl, rfl⟩
    have law' := law.out
    clear law
    generalize round (a, b, c, d) = p at law' ⊢
    generalize round _ = q at law' ⊢
    go_wp2_with fail
    refine (told1_any _).mono ?_
    rintro e w3 ⟨rfl, hf⟩
    have HF := Lib.hid ((((Fr.refl none_ w).alloc _).alloc _).trans hf)
    clear hf
    by_cases ht : t = 0
    · subst ht
      obtain ⟨⟨⟨e1, e2⟩, e3⟩, e4⟩ := law'.2 rfl
      rw [e1, e2, e3, e4]
      clear law' e1 e2 e3 e4
      have hz : (u (0 : W) == 0) = true := by decide
      go_wp2
      go_ret
      exact ⟨rfl, HF.out⟩
    · have hz : (u t == 0) = false := by rw [show (0 : Int) = u (0 : W) from by decide, u_beq]; simpa using ht
      have hn : (u p.1 == u q.1) = false ∨ ((u p.1 == u q.1) = true ∧ (u p.2.1 == u q.2.1) = false) ∨ ((u p.1 == u q.1) = true ∧ (u p.2.1 == u q.2.1) = true ∧ (u p.2.2.1 == u q.2.2.1) = false) ∨
          ((u p.1 == u q.1) = true ∧ (u p.2.1 == u q.2.1) = true ∧ (u p.2.2.1 == u q.2.2.1) = true ∧ (u p.2.2.2 == u q.2.2.2) = false) := by
        have hn : ¬ (((p.1 = q.1 ∧ p.2.1 = q.2.1) ∧ p.2.2.1 = q.2.2.1) ∧ p.2.2.2 = q.2.2.2) := fun h => ht (law'.1 h)
        simp only [u_beq, beq_eq_false_iff_ne, beq_iff_eq]
        by_cases g1 : p.1 = q.1
        · by_cases g2 : p.2.1 = q.2.1
          · by_cases g3 : p.2.2.1 = q.2.2.1
            · exact .inr (.inr (.inr ⟨g1, g2, g3, fun g4 => hn ⟨⟨⟨g1, g2⟩, g3⟩, g4⟩⟩))
            · exact .inr (.inr (.inl ⟨g1, g2, g3⟩))
          · exact .inr (.inl ⟨g1, g2⟩)
        · exact .inl g1
      clear law' ht
      obtain e1 | ⟨e1, e2⟩ | ⟨e1, e2, e3⟩ | ⟨e1, e2, e3, e4⟩ := hn
      all_goals
        go_wp2
        go_ret
        exact ⟨rfl, HF.out⟩

namespace sipRounds
open Go Go.ChangeShapes Go.WideShapes Go.ChangeAt Go.RowKit
set_option linter.unusedVariables false
set_option maxRecDepth 100000 in
theorem lifted (os : Os) (started : os.Started) (H : Type) (enc : TypeId × Value → H) :
    ReturnsInHanded {} Try.checked os 6 .any (Rows.sipRoundsSpec.pre6 enc Try.prog Try.f6 Rows.sipRoundsRow.domain false) (Rows.sipRoundsSpec.post enc Try.prog Try.f6 false true false false) := by
  refine returnsInHanded_of_change (C := Try.checked) owned started (by kernel_rfl) Try.func6
    (ChangeSpec.witness6 (enc := enc) (C := Try.checked) false ⟨#[], #[.agg #[.int .u64 0, .int .u64 0, .int .u64 0, .int .u64 0], .int .i64 0, .int .u64 0], []⟩ 8 (by kernel_rfl) (by kernel_rfl) (by kernel_rfl) (by kernel_rfl)) ?_
  intro W base args ds gs before hval0 hW hcnd _
  have hval : ∀ (j : Nat) t v, Try.f6.params[j]? = some t → args[j]? = some v → Value.okWide Try.prog W .any base t v := hval0
  have hW' := hW
  obtain ⟨p, q, hA0, hV, rfl, hfz, hnd⟩ := hW
  have hA : DataW.TrodAll enc Try.prog W 0 (fun _ => true) true Try.f6.params.toList args.toList ds p := hA0
  rw [Try.params6] at hA hval
  obtain ⟨v0, vs0, d0, ds0, p0, q0, hargs, rfl, rfl, h0, r0⟩ := trodAll_cons hA
  obtain ⟨v1, vs1, d1, ds1, p1, q1, rfl, rfl, rfl, h1, r1⟩ := trodAll_cons r0
  obtain ⟨v2, vs2, d2, ds2, p2, q2, rfl, rfl, rfl, h2, r2⟩ := trodAll_cons r1
  obtain ⟨rfl, rfl, rfl⟩ := trodAll_nil r2
  obtain rfl : args = #[v0, v1, v2] := by cases args; simp_all
  obtain ⟨rfl, rfl⟩ := trodVars_none hV
  have k0 := h0
  have lt0 : ∀ x ∈ p0, x.block < W.heap.size := by obtain ⟨m, hm⟩ := k0; exact DataW.trod_lt m _ _ _ hm
  have k1 := h1
  have lt1 : ∀ x ∈ p1, x.block < W.heap.size := by obtain ⟨m, hm⟩ := k1; exact DataW.trod_lt m _ _ _ hm
  have k2 := h2
  have lt2 : ∀ x ∈ p2, x.block < W.heap.size := by obtain ⟨m, hm⟩ := k2; exact DataW.trod_lt m _ _ _ hm
  obtain ⟨x0, rfl⟩ := open_arr4 Try.underlying24 Try.underlying22 (by kernel_rfl) (by kernel_rfl) (hval 0 24 v0 rfl rfl) h0
  obtain ⟨x1, rfl, bl1, bh1⟩ := open_num Try.underlying3 (hval 1 3 v1 rfl rfl) h1
  obtain ⟨x2, rfl⟩ := open_word Try.underlying22 (hval 2 22 v2 rfl rfl) h2
  clear hA0 hval0
  refine (walk_SipRounds W x0 x1 bl1 bh1 x2).mono fun e W' ⟨he, fr⟩ => ?_
  subst he
  have bel := fr.below
  exact ⟨_, rfl, _, _, _, [], _, [], hW', trodAll_mk1 (shut_bool Try.underlying4 _), (trodAll_cons_mk (Below.trod laid (by kernel_rfl) (of_decide_eq_true (by kernel_rfl)) k0 bel lt0) (trodAll_cons_mk (Below.trod laid (by kernel_rfl) (of_decide_eq_true (by kernel_rfl)) k1 bel lt1) (trodAll_cons_mk (Below.trod laid (by kernel_rfl) (of_decide_eq_true (by kernel_rfl)) k2 bel lt2) trodAll_mk0))), rfl, bel.frame _, fun h => by cases h⟩

theorem inPlace : Try.prog.inPlace 6 = [] := inPlace_none _ _ (by kernel_rfl)
theorem closed : joinedFacts Try.prog 6 Try.f6 Rows.sipRoundsSpec Rows.sipRoundsRow = true := by
  unfold joinedFacts
  repeat' (with_reducible refine and_mk ?_ ?_)
  all_goals first
    | with_reducible exact enters
    | with_reducible exact laid
    | with_reducible exact rowed
    | with_reducible exact noStops
    | with_reducible exact noKnobs
    | with_reducible exact heard
    | (rw [lifts]; as_aux_lemma => kernel_rfl)
    | (rw [makes]; as_aux_lemma => kernel_rfl)
    | (rw [plains]; as_aux_lemma => kernel_rfl)
    | (rw [inPlace]; as_aux_lemma => kernel_rfl)
    | as_aux_lemma => kernel_rfl
theorem named : Try.prog.funcNamed Rows.sipRoundsRow.func = some 6 := by kernel_rfl
theorem isOne : (Try.f6).isInstance Try.prog Rows.sipRoundsRow.origin Rows.sipRoundsRow.targs := of_decide_eq_true (by kernel_rfl)
theorem wraps : (Try.f6).isWrapper Try.prog Rows.sipRoundsRow.wrapper Rows.sipRoundsRow.mainSum := by unfold Func.isWrapper; first | (rw [if_pos (by decide +kernel)]; kernel_rfl) | (rw [if_neg (by decide +kernel)]; exact ⟨rfl, rfl⟩)
theorem over : Rows.sipRoundsRow.holds Try.pinned (OpenSpec.ofChange Rows.sipRoundsSpec) :=
  OpenClaim.holds_of_wide 6 Try.f6 rfl rfl rfl rfl rfl rfl rfl ⟨rfl, rfl, rfl, rfl, rfl⟩ rfl rfl rfl rfl rfl named Try.func6 closed
    isOne wraps
    (fun os started H enc _ => lifted os started H enc)

/-- THE STATEMENT. -/
theorem proved : Rows.SipRoundsSaid := over
#print axioms proved
end sipRounds
end Go.Proofs.Ytandenkoejbloaa
