/- For every input the law quorumitelaw7.SealApart returns true: two collectors seal the same message each under its own key: envelopes are the same but for their tags. Conditions: none. -/
import Derived.Test.YtandenkoejbloaaTold7
import Derived.Test.YtandenkoejbloaaRseal
import Derived.Test.YtandenkoejbloaaFacts
import Derived.Test.YtandenkoejbloaaMore
import Derived.Test.YtandenkoejbloaaOpen
namespace Go.Proofs.Ytandenkoejbloaa
open Go Go.RowKit
set_option maxRecDepth 100000 in
set_option maxHeartbeats 60000000 in
theorem walk_SealApart (w : World) (seed : W) (x1 : Int) (_ : -9223372036854775808 ≤ x1) (_ : x1 ≤ 9223372036854775807) (x2 : Int) (_ : -9223372036854775808 ≤ x2) (_ : x2 ≤ 9223372036854775807) (x3 : Int) (_ : -9223372036854775808 ≤ x3) (_ : x3 ≤ 9223372036854775807) (x4 : Int) (_ : -9223372036854775808 ≤ x4) (_ : x4 ≤ 9223372036854775807) :
    Calls Try.prog 25 #[.int .u64 (u seed), .int .i64 x1, .int .i64 x2, .int .i64 x3, .int .i64 x4] w fun e w' => e = .returned (.bool true) ∧ Fr none_ w w' := by
  obtain ⟨x, hx, hmx⟩ := modN 16 (by decide) x1
  have hmx : (IntKind.u64.wrap x1).tmod 16 = (x : Int) := hmx
  obtain ⟨y, hy, hmy⟩ := modN 16 (by decide) x2
  have hmy : (IntKind.u64.wrap x2).tmod 16 = (y : Int) := hmy
  obtain ⟨ep, hep, hme⟩ := modN 1099511627776 (by decide) x3
  have hme : (IntKind.u64.wrap x3).tmod 1099511627776 = (ep : Int) := hme
  obtain ⟨va, hva, hmv⟩ := modN 1099511627776 (by decide) x4
  have hmv : (IntKind.u64.wrap x4).tmod 1099511627776 = (va : Int) := hmv
  have ex : IntKind.i64.wrap (x : Int) = x := IntWalk.i64_in _ (by omega)
  have ey : IntKind.i64.wrap (y : Int) = y := IntWalk.i64_in _ (by omega)
  have ee : IntKind.i64.wrap (ep : Int) = ep := IntWalk.i64_in _ (by omega)
  have ev : IntKind.i64.wrap (va : Int) = va := IntWalk.i64_in _ (by omega)
  have HT : ∀ wa : World, Calls Try.prog 76 #[] wa fun e w' => e = .returned (.bool true) ∧ Fr none_ wa w' := told7_any
  have HN := fun (wa : World) => snew_ok seed x wa (by omega) (by omega)
  have HM := fun (wa : World) => snew_ok seed y wa (by omega) (by omega)
  have HZ := fun (wa : World) => fsnew_ok seed x wa (by omega) (by omega)
  have hmay : ∀ z : Nat, z < 16 → mayM (nxM z (0, 0) 1 0 ep va 1) = true := fun z hz => by
    unfold mayM inI nxM
    simp only [Bool.and_eq_true, decide_eq_true_eq, if_pos]
    omega
  have HS : ∀ (z : Nat), z < 16 → ∀ (wa : World) (b : Nat), SlAt wa b seed z (0, 0) → Calls Try.prog 77 #[.pointer (some ⟨b, 0, none⟩), .int .i64 1, .int .i64 ep, .int .i64 va] wa fun e w' => ∃ v, e = .returned (.tuple #[v, .int .i64 0]) ∧ Own w' wa.heap.size 5 v ((sealB (ofW seed z 0) (nxM z (0, 0) 1 0 ep va 1)).map bv) ∧ Fr (one_ b) wa w' := fun z hz wa b h => by
    have := ssample_any h 1 ep va
    obtain ⟨h1, h2, h3, _⟩ := sl_ok (hmay z hz) (ofW seed z 0) (0, 0)
    rw [show ((0, 0) : St).1 = 0 from rfl, h1, h2, h3] at this
    exact this.mono fun e w' ⟨v, a, b, _, d⟩ => ⟨v, a, b, d⟩
  have HY : ∀ (z : Nat), z < 16 → ∀ (wa : World) (v : Value), Rd wa v ((sealB (ofW seed z 0) (nxM z (0, 0) 1 0 ep va 1)).map bv) → Calls Try.prog 59 #[v] wa fun e w' => ∃ (r : Value) (t : W × W), e = .returned (.tuple #[.agg #[.int .i64 1, .int .i64 z, .int .i64 0, .int .i64 1, .int .i64 ep, .int .i64 va, .int .i64 1], r, .agg #[.int .u64 (u t.1), .int .u64 (u t.2)], .int .i64 0]) ∧ Fr none_ wa w' := fun z hz wa v h =>
    (split_seal (ofW seed z 0) (nxM z (0, 0) 1 0 ep va 1) (hmay z hz) v wa h).mono fun e w' ⟨r, a, _, d⟩ => ⟨r, tagW (ofW seed z 0) (msgB (nxM z (0, 0) 1 0 ep va 1)), a, d⟩
  have HSX := HS x hx
  have HSY := HS y hy
  have HYX := HY x hx
  have HYY := HY y hy
  have hxy0 : x = y → sealB (ofW seed x 0) (nxM x (0, 0) 1 0 ep va 1) = sealB (ofW seed y 0) (nxM y (0, 0) 1 0 ep va 1) := fun e => by rw [e]
  generalize sealB (ofW seed x 0) (nxM x (0, 0) 1 0 ep va 1) = sx at *
  generalize sealB (ofW seed y 0) (nxM y (0, 0) 1 0 ep va 1) = sy at *
  have hem := eq_msg
  clear HS HY hmay
  go_enter Try.func25, Try.ntmps25
  go_wp2_with fail
  refine (HN _).mono ?_
  rintro e w1 ⟨b1, rfl, hb1, hA1, hF1⟩
  have h1 := none_of_one hb1
  go_wp2_with fail
  refine (HM _).mono ?_
  rintro e w2 ⟨b2, rfl, hb2, hA2, hf⟩
  have hl1 := hA1.lt
  have h2 : ∀ i, i < w.heap.size → one_ b2 i → none_ i := none_of_one (by have := hF1.size; omega)
  have hA1 := hA1.kept hf (fun f => f)
  have hF2 := hF1.trans hf
  have hl2 := hA2.lt
  have hne : b2 ≠ b1 := by omega
  clear HN HM hF1 hf hb1 hb2
  go_wp2_with fail
  clear hmx hmy hme hmv
  refine (HSX _ b1 hA1).mono ?_
  rintro e w3 ⟨v3, rfl, ho3, hf⟩
  have hA3 := hA2.kept hf hne
  have hF3 := hF2.step hf h1
  have hl3 := hA3.lt
  clear HSX hA1 hA2 hF2
  have hb3 := hf.size
  clear hf
  go_wp2_with fail
  refine (HSY _ b2 hA3).mono ?_
  rintro e w4 ⟨v4, rfl, ho4, hf⟩
  have hR3 := (ho3.kept hf (fun k hk hx => by have := (ho3.blk k hk).1; unfold one_ at hx; omega)).rd
  have hF4 := hF3.step hf h2
  clear HSY hA3 hF3 hf ho3
  go_wp2_with fail
  refine (HYX _ _ hR3).mono ?_
  rintro e w5 ⟨r5, t5, rfl, hf⟩
  have hx5 := (hf.alloc (.cells #[.int .i64 1, .int .i64 x, .int .i64 0, .int .i64 1, .int .i64 ep, .int .i64 va, .int .i64 1] 68)).alloc (.cells #[.int .u64 (u t5.1), .int .u64 (u t5.2)] 52)
  have hM5 := (Blk.new w5 #[.int .i64 1, .int .i64 x, .int .i64 0, .int .i64 1, .int .i64 ep, .int .i64 va, .int .i64 1] 68).alloc (.cells #[.int .u64 (u t5.1), .int .u64 (u t5.2)] 52)
  have hR3 := hR3.kept hx5 (fun _ _ _ _ f => f)
  have hR4 := ho4.rd.kept hx5 (fun _ _ _ _ f => f)
  have hF5 := hF4.trans hx5
  clear HYX hF4 ho4 hf hx5
  go_wp2_with fail
  generalize (w5.alloc (.cells #[.int .i64 1, .int .i64 x, .int .i64 0, .int .i64 1, .int .i64 ep, .int .i64 va, .int .i64 1] 68)).alloc (.cells #[.int .u64 (u t5.1), .int .u64 (u t5.2)] 52) = w6 at *
  generalize w5.heap.size = c1 at *
  refine (HYY _ _ hR4).mono ?_
  rintro e w7 ⟨r7, t7, rfl, hf⟩
  have hM7 := hM5.kept hf (fun f => f)
  have hc1 := hM7.lt
  have hR3 := hR3.kept hf (fun _ _ _ _ f => f)
  have hR4 := hR4.kept hf (fun _ _ _ _ f => f)
  have hF7 := hF5.trans hf
  have hx7 := ((Fr.refl none_ w7).alloc (.cells #[.int .i64 1, .int .i64 x, .int .i64 0, .int .i64 1, .int .i64 ep, .int .i64 va, .int .i64 1] 68)).alloc (.cells #[.int .u64 (u t7.1), .int .u64 (u t7.2)] 52)
  have hN8 := (Blk.new w7 #[.int .i64 1, .int .i64 x, .int .i64 0, .int .i64 1, .int .i64 ep, .int .i64 va, .int .i64 1] 68).alloc (.cells #[.int .u64 (u t7.1), .int .u64 (u t7.2)] 52)
  have hx7' := ((Fr.refl none_ w7).alloc (.cells #[.int .i64 1, .int .i64 y, .int .i64 0, .int .i64 1, .int .i64 ep, .int .i64 va, .int .i64 1] 68)).alloc (.cells #[.int .u64 (u t7.1), .int .u64 (u t7.2)] 52)
  obtain ⟨g0, g1, g2, g3, g4, g5, g6⟩ := hM7.c7 hx7'
  clear HYY hM5 hF5 hf
  go_wp2_with fail
  generalize (w7.alloc (.cells #[.int .i64 1, .int .i64 x, .int .i64 0, .int .i64 1, .int .i64 ep, .int .i64 va, .int .i64 1] 68)).alloc (.cells #[.int .u64 (u t7.1), .int .u64 (u t7.2)] 52) = w8 at *
  generalize w7.heap.size = c2 at *
  have hM8 := hM7.kept hx7 (fun f => f)
  have hR3 := hR3.kept hx7 (fun _ _ _ _ f => f)
  have hR4 := hR4.kept hx7 (fun _ _ _ _ f => f)
  have hF8 := hF7.trans hx7
  refine (HT _).mono ?_
  rintro e w9 ⟨rfl, hf⟩
  obtain ⟨m0, m1, m2, m3, m4, m5, m6⟩ := hM8.c7 hf
  obtain ⟨n0, n1, n2, n3, n4, n5, n6⟩ := hN8.c7 hf
  have hR3 := hR3.kept hf (fun _ _ _ _ f => f)
  have hR4 := hR4.kept hf (fun _ _ _ _ f => f)
  have HF9 := Lib.hid (hF8.trans hf)
  clear hM7 hM8 hN8 hF7 hF8 hf hx7 hx7' g0 g1 g2 g3 g4 g5 g6 HT
  by_cases hxy : x = y
  · have hE0 := hxy0 hxy
    subst hE0
    have d1 : ((x : Int) != (y : Int)) = false := by simp [hxy]
    have hE : ((bs sx).toList == (bs sx).toList) = true := by simp
    have hcv1 := run_str_of_rd (P := Try.prog) Try.underlying25 Try.underlying5 Try.underlying9 hR3
    have hcv2 := run_str_of_rd (P := Try.prog) Try.underlying25 Try.underlying5 Try.underlying9 hR4
    clear hR3 hR4 hxy0 hxy
    go_wp2_with fail
    refine (HZ _).mono ?_
    rintro e w10 ⟨b9, rfl, _, _, hf⟩
    go_wp2_with fail
    go_ret
    exact ⟨rfl, HF9.out.trans hf⟩
  · have d1 : ((x : Int) != (y : Int)) = true := by simp; omega
    have d2 : (x != y) = true := by simp; omega
    clear hR3 hR4 hxy0 hxy
    go_wp2_with fail
    refine (HZ _).mono ?_
    rintro e w10 ⟨b9, rfl, _, _, hf⟩
    go_wp2_with fail
    go_ret
    exact ⟨rfl, HF9.out.trans hf⟩

namespace sealApart
open Go Go.ChangeShapes Go.WideShapes Go.ChangeAt Go.RowKit
set_option linter.unusedVariables false
set_option maxRecDepth 100000 in
theorem lifted (os : Os) (started : os.Started) (H : Type) (enc : TypeId × Value → H) :
    ReturnsInHanded {} Try.checked os 25 .any (Rows.sealApartSpec.pre6 enc Try.prog Try.f25 Rows.sealApartRow.domain false) (Rows.sealApartSpec.post enc Try.prog Try.f25 false true false false) := by
  refine returnsInHanded_of_change (C := Try.checked) owned started (by kernel_rfl) Try.func25
    (ChangeSpec.witness6 (enc := enc) (C := Try.checked) false ⟨#[], #[.int .u64 0, .int .i64 0, .int .i64 0, .int .i64 0, .int .i64 0], []⟩ 8 (by kernel_rfl) (by kernel_rfl) (by kernel_rfl) (by kernel_rfl)) ?_
  intro W base args ds gs before hval0 hW hcnd _
  have hval : ∀ (j : Nat) t v, Try.f25.params[j]? = some t → args[j]? = some v → Value.okWide Try.prog W .any base t v := hval0
  have hW' := hW
  obtain ⟨p, q, hA0, hV, rfl, hfz, hnd⟩ := hW
  have hA : DataW.TrodAll enc Try.prog W 0 (fun _ => true) true Try.f25.params.toList args.toList ds p := hA0
  rw [Try.params25] at hA hval
  obtain ⟨v0, vs0, d0, ds0, p0, q0, hargs, rfl, rfl, h0, r0⟩ := trodAll_cons hA
  obtain ⟨v1, vs1, d1, ds1, p1, q1, rfl, rfl, rfl, h1, r1⟩ := trodAll_cons r0
  obtain ⟨v2, vs2, d2, ds2, p2, q2, rfl, rfl, rfl, h2, r2⟩ := trodAll_cons r1
  obtain ⟨v3, vs3, d3, ds3, p3, q3, rfl, rfl, rfl, h3, r3⟩ := trodAll_cons r2
  obtain ⟨v4, vs4, d4, ds4, p4, q4, rfl, rfl, rfl, h4, r4⟩ := trodAll_cons r3
  obtain ⟨rfl, rfl, rfl⟩ := trodAll_nil r4
  obtain rfl : args = #[v0, v1, v2, v3, v4] := by cases args; simp_all
  obtain ⟨rfl, rfl⟩ := trodVars_none hV
  have k0 := h0
  have lt0 : ∀ x ∈ p0, x.block < W.heap.size := by obtain ⟨m, hm⟩ := k0; exact DataW.trod_lt m _ _ _ hm
  have k1 := h1
  have lt1 : ∀ x ∈ p1, x.block < W.heap.size := by obtain ⟨m, hm⟩ := k1; exact DataW.trod_lt m _ _ _ hm
  have k2 := h2
  have lt2 : ∀ x ∈ p2, x.block < W.heap.size := by obtain ⟨m, hm⟩ := k2; exact DataW.trod_lt m _ _ _ hm
  have k3 := h3
  have lt3 : ∀ x ∈ p3, x.block < W.heap.size := by obtain ⟨m, hm⟩ := k3; exact DataW.trod_lt m _ _ _ hm
  have k4 := h4
  have lt4 : ∀ x ∈ p4, x.block < W.heap.size := by obtain ⟨m, hm⟩ := k4; exact DataW.trod_lt m _ _ _ hm
  obtain ⟨x0, rfl⟩ := open_word Try.underlying22 (hval 0 22 v0 rfl rfl) h0
  obtain ⟨x1, rfl, bl1, bh1⟩ := open_num Try.underlying3 (hval 1 3 v1 rfl rfl) h1
  obtain ⟨x2, rfl, bl2, bh2⟩ := open_num Try.underlying3 (hval 2 3 v2 rfl rfl) h2
  obtain ⟨x3, rfl, bl3, bh3⟩ := open_num Try.underlying2 (hval 3 2 v3 rfl rfl) h3
  obtain ⟨x4, rfl, bl4, bh4⟩ := open_num Try.underlying2 (hval 4 2 v4 rfl rfl) h4
  clear hA0 hval0
  refine (walk_SealApart W x0 x1 bl1 bh1 x2 bl2 bh2 x3 bl3 bh3 x4 bl4 bh4).mono fun e W' ⟨he, fr⟩ => ?_
  subst he
  have bel := fr.below
  exact ⟨_, rfl, _, _, _, [], _, [], hW', trodAll_mk1 (shut_bool Try.underlying4 _), (trodAll_cons_mk (Below.trod laid (by kernel_rfl) (of_decide_eq_true (by kernel_rfl)) k0 bel lt0) (trodAll_cons_mk (Below.trod laid (by kernel_rfl) (of_decide_eq_true (by kernel_rfl)) k1 bel lt1) (trodAll_cons_mk (Below.trod laid (by kernel_rfl) (of_decide_eq_true (by kernel_rfl)) k2 bel lt2) (trodAll_cons_mk (Below.trod laid (by kernel_rfl) (of_decide_eq_true (by kernel_rfl)) k3 bel lt3) (trodAll_cons_mk (Below.trod laid (by kernel_rfl) (of_decide_eq_true (by kernel_rfl)) k4 bel lt4) trodAll_mk0))))), rfl, bel.frame _, fun h => by cases h⟩

theorem inPlace : Try.prog.inPlace 25 = ["sync/atomic.LoadInt64", "sync/atomic.AddInt64", "sync/atomic.StoreInt64"] := by kernel_rfl
theorem closed : joinedFacts Try.prog 25 Try.f25 Rows.sealApartSpec Rows.sealApartRow = true := by
  unfold joinedFacts
  repeat' (with_reducible refine and_mk ?_ ?_)
  all_goals first
    | with_reducible exact enters
    | with_reducible exact laid
    | with_reducible exact rowed
    | with_reducible exact noStops
    | with_reducible exact noKnobs
    | with_reducible exact heard
    | (rw [lifts]; as_aux_lemma => kernel_rfl)
    | (rw [makes]; as_aux_lemma => kernel_rfl)
    | (rw [plains]; as_aux_lemma => kernel_rfl)
    | (rw [inPlace]; as_aux_lemma => kernel_rfl)
    | as_aux_lemma => kernel_rfl
theorem named : Try.prog.funcNamed Rows.sealApartRow.func = some 25 := by kernel_rfl
theorem isOne : (Try.f25).isInstance Try.prog Rows.sealApartRow.origin Rows.sealApartRow.targs := of_decide_eq_true (by kernel_rfl)
theorem wraps : (Try.f25).isWrapper Try.prog Rows.sealApartRow.wrapper Rows.sealApartRow.mainSum := by unfold Func.isWrapper; first | (rw [if_pos (by decide +kernel)]; kernel_rfl) | (rw [if_neg (by decide +kernel)]; exact ⟨rfl, rfl⟩)
theorem over : Rows.sealApartRow.holds Try.pinned (OpenSpec.ofChange Rows.sealApartSpec) :=
  OpenClaim.holds_of_wide 25 Try.f25 rfl rfl rfl rfl rfl rfl rfl ⟨rfl, rfl, rfl, rfl, rfl⟩ rfl rfl rfl rfl rfl named Try.func25 closed
    isOne wraps
    (fun os started H enc _ => lifted os started H enc)

/-- THE STATEMENT. -/
theorem proved : Rows.SealApartSaid := over
#print axioms proved
end sealApart
end Go.Proofs.Ytandenkoejbloaa
