/- For every input the law quorumitelaw2.MacKeys returns true: each collector's key of each generation is derived in two steps from the root, and hangs on the seed. Conditions: none. -/
import Derived.Test.YtandenkoejbloaaTold2
import Derived.Test.YtandenkoejbloaaFacts
namespace Go.Proofs.Ytandenkoejbloaa
open Go Go.RowKit

set_option maxRecDepth 100000 in
set_option maxHeartbeats 6400000 in
theorem walk_MacKeys (w : World) (seed : W) (who : Int) (_ : -9223372036854775808 ≤ who) (_ : who ≤ 9223372036854775807) (gen : Int) (_ : -9223372036854775808 ≤ gen) (_ : gen ≤ 9223372036854775807) :
    Calls Try.prog 14 #[.int .u64 (u seed), .int .i64 who, .int .i64 gen] w fun e w' => e = .returned (.bool true) ∧ Fr none_ w w' := by
  have hw1 : IntKind.u64.wrap who = u (wi who) := (u_ofInt who).symm
  have hw2 : IntKind.u64.wrap gen = u (wi gen) := (u_ofInt gen).symm
  have hadd : IntKind.u64.wrap (u seed + 1) = u (seed + 1) := u_add seed 1
  have HO : ∀ wa : World, Calls Try.prog 49 #[.int .u64 (u seed), .int .i64 who, .int .i64 gen] wa fun e w' => e = .returned (keyv (deriveW (deriveW (rootW seed) whoL (wi who)) genL (wi gen))) ∧ Fr none_ wa w' := fun wa => of_any seed who gen wa
  have HR : ∀ wa : World, Calls Try.prog 47 #[.int .u64 (u seed)] wa fun e w' => e = .returned (keyv (rootW seed)) ∧ Fr none_ wa w' := fun wa => root_any seed wa
  have H0 : ∀ wa : World, Calls Try.prog 45 #[keyv (seed, seed + 1), .string { data := #[114, 111, 111, 116] }, .int .u64 0] wa fun e w' => e = .returned (keyv (rootW seed)) ∧ Fr none_ wa w' := fun wa => derive_any (seed, seed + 1) rootL 0 wa (by decide)
  have H2 : ∀ wa : World, Calls Try.prog 45 #[keyv (rootW seed), .string { data := #[119, 104, 111] }, .int .u64 (u (wi who))] wa fun e w' => e = .returned (keyv (deriveW (rootW seed) whoL (wi who))) ∧ Fr none_ wa w' := fun wa => derive_any (rootW seed) whoL (wi who) wa (by decide)
  have H3 : ∀ wa : World, Calls Try.prog 45 #[keyv (deriveW (rootW seed) whoL (wi who)), .string { data := #[103, 101, 110] }, .int .u64 (u (wi gen))] wa fun e w' => e = .returned (keyv (deriveW (deriveW (rootW seed) whoL (wi who)) genL (wi gen))) ∧ Fr none_ wa w' := fun wa => derive_any (deriveW (rootW seed) whoL (wi who)) genL (wi gen) wa (by decide)
  generalize deriveW (deriveW (rootW seed) whoL (wi who)) genL (wi gen) = k3 at *
  generalize deriveW (rootW seed) whoL (wi who) = k2 at *
  generalize rootW seed = k1 at *
  unfold keyv at *
  go_enter Try.func14, Try.ntmps14
  go_wp2_with fail
  refine (told2_any _).mono ?_
  rintro e w1 ⟨rfl, hf1⟩
  go_wp2_with fail
  refine (HO _).mono ?_
  rintro e w2 ⟨rfl, hf2⟩
  go_wp2_with fail
  refine (HR _).mono ?_
  rintro e w3 ⟨rfl, hf3⟩
  go_wp2_with fail
  refine (H2 _).mono ?_
  rintro e w4 ⟨rfl, hf4⟩
  go_wp2_with fail
  refine (H3 _).mono ?_
  rintro e w5 ⟨rfl, hf5⟩
  go_wp2_with fail
  refine (HR _).mono ?_
  rintro e w6 ⟨rfl, hf6⟩
  go_wp2_with fail
  refine (H0 _).mono ?_
  rintro e w7 ⟨rfl, hf7⟩
  go_wp2_with fail
  go_ret
  exact ⟨rfl, (((((hf1.trans hf2).trans hf3).trans hf4).trans hf5).trans hf6).trans hf7⟩

namespace macKeys
open Go Go.ChangeShapes Go.WideShapes Go.ChangeAt Go.RowKit
set_option linter.unusedVariables false
set_option maxRecDepth 100000 in
theorem lifted (os : Os) (started : os.Started) (H : Type) (enc : TypeId × Value → H) :
    ReturnsInHanded {} Try.checked os 14 .any (Rows.macKeysSpec.pre6 enc Try.prog Try.f14 Rows.macKeysRow.domain false) (Rows.macKeysSpec.post enc Try.prog Try.f14 false true false false) := by
  refine returnsInHanded_of_change (C := Try.checked) owned started (by kernel_rfl) Try.func14
    (ChangeSpec.witness6 (enc := enc) (C := Try.checked) false ⟨#[], #[.int .u64 0, .int .i64 0, .int .i64 0], []⟩ 8 (by kernel_rfl) (by kernel_rfl) (by kernel_rfl) (by kernel_rfl)) ?_
  intro W base args ds gs before hval0 hW hcnd _
  have hval : ∀ (j : Nat) t v, Try.f14.params[j]? = some t → args[j]? = some v → Value.okWide Try.prog W .any base t v := hval0
  have hW' := hW
  obtain ⟨p, q, hA0, hV, rfl, hfz, hnd⟩ := hW
  have hA : DataW.TrodAll enc Try.prog W 0 (fun _ => true) true Try.f14.params.toList args.toList ds p := hA0
  rw [Try.params14] at hA hval
  obtain ⟨v0, vs0, d0, ds0, p0, q0, hargs, rfl, rfl, h0, r0⟩ := trodAll_cons hA
  obtain ⟨v1, vs1, d1, ds1, p1, q1, rfl, rfl, rfl, h1, r1⟩ := trodAll_cons r0
  obtain ⟨v2, vs2, d2, ds2, p2, q2, rfl, rfl, rfl, h2, r2⟩ := trodAll_cons r1
  obtain ⟨rfl, rfl, rfl⟩ := trodAll_nil r2
  obtain rfl : args = #[v0, v1, v2] := by cases args; simp_all
  obtain ⟨rfl, rfl⟩ := trodVars_none hV
  have k0 := h0
  have lt0 : ∀ x ∈ p0, x.block < W.heap.size := by obtain ⟨m, hm⟩ := k0; exact DataW.trod_lt m _ _ _ hm
  have k1 := h1
  have lt1 : ∀ x ∈ p1, x.block < W.heap.size := by obtain ⟨m, hm⟩ := k1; exact DataW.trod_lt m _ _ _ hm
  have k2 := h2
  have lt2 : ∀ x ∈ p2, x.block < W.heap.size := by obtain ⟨m, hm⟩ := k2; exact DataW.trod_lt m _ _ _ hm
  obtain ⟨x0, rfl⟩ := open_word Try.underlying22 (hval 0 22 v0 rfl rfl) h0
  obtain ⟨x1, rfl, bl1, bh1⟩ := open_num Try.underlying3 (hval 1 3 v1 rfl rfl) h1
  obtain ⟨x2, rfl, bl2, bh2⟩ := open_num Try.underlying3 (hval 2 3 v2 rfl rfl) h2
  clear hA0 hval0
  refine (walk_MacKeys W x0 x1 bl1 bh1 x2 bl2 bh2).mono fun e W' ⟨he, fr⟩ => ?_
  subst he
  have bel := fr.below
  exact ⟨_, rfl, _, _, _, [], _, [], hW', trodAll_mk1 (shut_bool Try.underlying4 _), (trodAll_cons_mk (Below.trod laid (by kernel_rfl) (of_decide_eq_true (by kernel_rfl)) k0 bel lt0) (trodAll_cons_mk (Below.trod laid (by kernel_rfl) (of_decide_eq_true (by kernel_rfl)) k1 bel lt1) (trodAll_cons_mk (Below.trod laid (by kernel_rfl) (of_decide_eq_true (by kernel_rfl)) k2 bel lt2) trodAll_mk0))), rfl, bel.frame _, fun h => by cases h⟩

theorem inPlace : Try.prog.inPlace 14 = [] := inPlace_none _ _ (by kernel_rfl)
theorem closed : joinedFacts Try.prog 14 Try.f14 Rows.macKeysSpec Rows.macKeysRow = true := by
  unfold joinedFacts
  repeat' (with_reducible refine and_mk ?_ ?_)
  all_goals first
    | with_reducible exact enters
    | with_reducible exact laid
    | with_reducible exact rowed
    | with_reducible exact noStops
    | with_reducible exact noKnobs
    | with_reducible exact heard
    | (rw [lifts]; as_aux_lemma => kernel_rfl)
    | (rw [makes]; as_aux_lemma => kernel_rfl)
    | (rw [plains]; as_aux_lemma => kernel_rfl)
    | (rw [inPlace]; as_aux_lemma => kernel_rfl)
    | as_aux_lemma => kernel_rfl
theorem named : Try.prog.funcNamed Rows.macKeysRow.func = some 14 := by kernel_rfl
theorem isOne : (Try.f14).isInstance Try.prog Rows.macKeysRow.origin Rows.macKeysRow.targs := of_decide_eq_true (by kernel_rfl)
theorem wraps : (Try.f14).isWrapper Try.prog Rows.macKeysRow.wrapper Rows.macKeysRow.mainSum := by unfold Func.isWrapper; first | (rw [if_pos (by decide +kernel)]; kernel_rfl) | (rw [if_neg (by decide +kernel)]; exact ⟨rfl, rfl⟩)
theorem over : Rows.macKeysRow.holds Try.pinned (OpenSpec.ofChange Rows.macKeysSpec) :=
  OpenClaim.holds_of_wide 14 Try.f14 rfl rfl rfl rfl rfl rfl rfl ⟨rfl, rfl, rfl, rfl, rfl⟩ rfl rfl rfl rfl rfl named Try.func14 closed
    isOne wraps
    (fun os started H enc _ => lifted os started H enc)

/-- THE STATEMENT. -/
theorem proved : Rows.MacKeysSaid := over
#print axioms proved
end macKeys
end Go.Proofs.Ytandenkoejbloaa
