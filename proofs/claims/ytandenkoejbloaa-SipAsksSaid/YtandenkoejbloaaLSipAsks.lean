/- For every input the law quorumitelaw1.SipAsks returns true: rounds, sums, numbers as bytes are what the document says. Conditions: none. -/
import Derived.Test.YtandenkoejbloaaRegM
import Derived.Test.YtandenkoejbloaaFacts
import Derived.Test.YtandenkoejbloaaTold1
import Derived.Test.YtandenkoejbloaaMore
namespace Go.Proofs.Ytandenkoejbloaa
open Go Go.RowKit

theorem get_both (ao : Option Addr) (cap : Nat) (l : List UInt8) (a : Int) (h1 : l.length ≤ cap) (h2 : cap ≤ maxLen) (ha : -9223372036854775808 ≤ a) (hb : a ≤ 9223372036854775807) : ∃ n ec : Int,
    (∀ w, Rd w (.slice ao l.length cap) (l.map bv) → Calls Try.prog 30 #[.slice ao l.length cap, .int .i64 a] w fun e w' => e = .returned (.tuple #[.int .u64 n, .int .i64 ec]) ∧ w = w') ∧
    (∀ w, Calls Try.prog 31 #[.string (bs l), .int .i64 a] w fun e w' => e = .returned (.tuple #[.int .u64 n, .int .i64 ec]) ∧ w = w') := by
  by_cases h : 0 ≤ a ∧ a + 8 ≤ l.length
  · exact ⟨u (wordAt l a.toNat), 0, fun w hr => get_ok _ l a w hr h.1 h.2, fun w => rget_bs l a w (Nat.le_trans h1 h2) h.1 h.2⟩
  · have hout : a < 0 ∨ (l.length : Int) - 8 < a := by omega
    exact ⟨0, 2, fun w _ => get_bad ao l.length cap a w (Nat.le_trans h1 h2) hout, fun w => rget_bad (bs l) a w (by rw [bs_size]; exact Nat.le_trans h1 h2) (by rw [bs_size]; exact hout) ⟨ha, hb⟩⟩
theorem box3_kept {w w' : World} {b c : Nat} {x y z : Value} (hf : Fr none_ w w') (hb : b < w.heap.size) (hc : c < w.heap.size) (h : w.cell? ⟨b, 0, none⟩ = some x ∧ w.cell? ⟨b, 1, none⟩ = some y ∧ w.cell? ⟨c, 0, none⟩ = some z) :
    w'.cell? ⟨b, 0, none⟩ = some x ∧ w'.cell? ⟨b, 1, none⟩ = some y ∧ w'.cell? ⟨c, 0, none⟩ = some z :=
  ⟨(hf.cell hb (fun f => f)).trans h.1, (hf.cell hb (fun f => f)).trans h.2.1, (hf.cell hc (fun f => f)).trans h.2.2⟩

set_option maxRecDepth 100000 in
set_option maxHeartbeats 30000000 in
theorem walk_SipAsks (w : World) (k : W × W) (x : W × W × W × W) (v2 : Value) (l : List UInt8) (h2 : Rd w v2 (l.map bv)) (at_ : Int) (h30 : -9223372036854775808 ≤ at_) (h31 : at_ ≤ 9223372036854775807) :
    Calls Try.prog 3 #[.agg #[.int .u64 (u k.1), .int .u64 (u k.2)], .agg #[.int .u64 (u x.1), .int .u64 (u x.2.1), .int .u64 (u x.2.2.1), .int .u64 (u x.2.2.2)], v2, .int .i64 at_] w fun e w' => e = .returned (.bool true) ∧ Fr none_ w w' := by
  obtain ⟨a, b, c, d⟩ := x
  have HL := Lib.hid h2
  obtain ⟨ao2, cap2, rfl, hc2, hm2, _⟩ := h2
  simp only [List.length_map] at *
  unfold maxLen at hm2
  have hB := Blk.new w #[.int .u64 (u k.1), .int .u64 (u k.2)] 23
  have hW := Blk.new (w.alloc (.cells #[.int .u64 (u k.1), .int .u64 (u k.2)] 23)) #[.int .u64 (u a), .int .u64 (u b), .int .u64 (u c), .int .u64 (u d)] 24
  rw [World.size_alloc] at hW
  replace hB := hB.alloc (.cells #[.int .u64 (u a), .int .u64 (u b), .int .u64 (u c), .int .u64 (u d)] 24)
  have hF := ((Fr.refl none_ w).alloc (.cells #[.int .u64 (u k.1), .int .u64 (u k.2)] 23)).alloc (.cells #[.int .u64 (u a), .int .u64 (u b), .int .u64 (u c), .int .u64 (u d)] 24)
  go_enter Try.func3, Try.ntmps3
  by_cases hl : 300 < l.length
  · have hd : decide ((300 : Int) < (l.length : Int)) = true := by simp; omega
    clear hB hW
    have HF := Lib.hid hF
    clear hF
    go_wp2_with fail
    refine (told1_any _).mono ?_
    rintro e w3 ⟨rfl, hf⟩
    go_wp2
    go_ret
    exact ⟨rfl, HF.out.trans hf⟩
  have hd : decide ((300 : Int) < (l.length : Int)) = false := by simp; omega
  have HB := Lib.hid hB
  have HW := Lib.hid hW
  have HF := Lib.hid hF
  clear hB hW hF
  go_wp2_with fail
  refine (round_any _ _ _ _ _).mono ?_
  rintro e w' ⟨rfl, rfl⟩
  go_wp2_with fail
  refine (rround_any _ _ _ _ _).mono ?_
  rintro e w' ⟨rfl, rfl⟩
  generalize round (a, b, c, d) = r
  generalize (w.alloc (.cells #[.int .u64 (u k.1), .int .u64 (u k.2)] 23)).alloc (.cells #[.int .u64 (u a), .int .u64 (u b), .int .u64 (u c), .int .u64 (u d)] 24) = w0 at *
  obtain ⟨n, ec, G1, G2⟩ := get_both ao2 cap2 l at_ hc2 hm2 h30 h31
  have HR := Lib.hid (HL.out.kept HF.out (fun _ _ _ _ f => f))
  have HU := Lib.hid (show w0.cell? ⟨w.heap.size, 0, none⟩ = some (.int .u64 (u k.1)) ∧ w0.cell? ⟨w.heap.size, 1, none⟩ = some (.int .u64 (u k.2)) ∧ w0.cell? ⟨w.heap.size + 1, 0, none⟩ = some (.int .u64 (u a)) from ⟨HB.out.cell_of rfl, HB.out.cell_of rfl, HW.out.cell_of rfl⟩)
  have hbl := HB.out.lt
  have hcl := HW.out.lt
  have hg1 := Lib.hid G1
  have hg2 := Lib.hid G2
  clear G1 G2 HB HW HL h30 h31
  go_wp2_with fail
  refine (hg1.out _ HR.out).mono ?_
  rintro e w' ⟨rfl, rfl⟩
  have hcv := run_str_of_rd (P := Try.prog) Try.underlying25 Try.underlying5 Try.underlying9 HR.out
  go_wp2_with fail
  refine (hg2.out _).mono ?_
  rintro e w' ⟨rfl, rfl⟩
  clear hg1 hg2 hcv
  go_wp2_with fail
  refine region_tm [0, 24, 27, 28, 44, 45, 48] [43] [0, 1, 2, 2, 14, 18, 34, 64, 64, 448, 576, 1088, 2048, 2048, 14336, 18432, 34816, 65536, 65536, 458752, 589824, 1114112, 2097152, 2097152, 14680064, 2097152, 2097152, 69206016, 186646528, 287309824, 538968064, 1342177280, 2147483648, 2147483648, 15032385536, 19327352832, 36507222016, 68719476736, 68719476736, 481036337152, 618475290624, 1168231104512, 2199023255552, 6597069766656, 10995116277760, 19791209299968, 2199023255552, 72567767433216, 160528697655296, 318858372055040, 565148976676864, 2251799813685247] [0, 4503599627370494, 4503599627370493, 4503599627370493, 4503599627370481, 4503599627370477, 4503599627370463, 4503599627370431, 4503599627370431, 4503599627370047, 4503599627369919, 4503599627369471, 4503599627368447, 4503599627368447, 4503599627356159, 4503599627352063, 4503599627337727, 4503599627304959, 4503599627304959, 4503599626911743, 4503599626780671, 4503599626321919, 4503599625273343, 4503599625273343, 0, 4503599625273343, 4503599625273343, 0, 0, 4503599340060671, 4503599088402431, 4503598553628671, 4503597479886847, 4503597479886847, 4503584594984959, 4503580300017663, 4503565267632127, 4503530907893759, 4503530907893759, 4503118591033343, 4502981152079871, 4502500115742719, 4501400604114943, 4497002557603839, 0, 0, 4501400604114943, 4431031859937279, 0, 4184741255315455, 3938450650693631, 3377699720527871] [0, 1, 3, 3, 15, 31, 63, 127, 127, 511, 1023, 2047, 4095, 4095, 16383, 32767, 65535, 131071, 131071, 524287, 1048575, 2097151, 4194303, 4194303, 16777215, 4194303, 4194303, 71303167, 268435455, 536870911, 1073741823, 2147483647, 4294967295, 4294967295, 17179869183, 34359738367, 68719476735, 137438953471, 137438953471, 549755813887, 1099511627775, 2199023255551, 4398046511103, 8796093022207, 17592186044415, 35184372088831, 4398046511103, 74766790688767, 246290604621823, 562949953421311, 1125899906842623, 2251799813685247] 4503599627370495 (.alt 0 (.quiet 1 (.quiet 2 (.quiet 3 (.quiet 4 (.quiet 5 (.quiet 6 (.quiet 7 (.quiet 8 (.quiet 9 (.quiet 10 (.quiet 11 (.quiet 12 (.quiet 13 (.quiet 14 (.quiet 15 (.quiet 16 (.quiet 17 (.quiet 18 (.quiet 19 (.quiet 20 (.quiet 21 (.quiet 22 (.quiet 23 (.quiet 25 (.quiet 26 (.alt 24 (.alt 27 (.alt 28 (.quiet 29 (.quiet 30 (.quiet 31 (.quiet 32 (.quiet 33 (.quiet 34 (.quiet 35 (.quiet 36 (.quiet 37 (.quiet 38 (.quiet 39 (.quiet 40 (.quiet 41 (.quiet 42 (.quiet 43 (.quiet 46 (.quiet 47 (.alt 44 (.alt 45 (.alt 48 (.quiet 49 (.quiet 50 (.quiet 51 .done))) (.fin)) (.alt 48 (.alt 45 (.quiet 49 (.quiet 50 (.quiet 51 .done))) (.fin)) (.fin))) (.fin))))))))))))))))))) (.fin)) (.fin)) (.alt 27 (.alt 24 (.alt 28 (.quiet 29 (.quiet 30 (.quiet 31 (.quiet 32 (.quiet 33 (.quiet 34 (.quiet 35 (.quiet 36 (.quiet 37 (.quiet 38 (.quiet 39 (.quiet 40 (.quiet 41 (.quiet 42 (.quiet 43 (.quiet 46 (.quiet 47 (.alt 44 (.alt 45 (.alt 48 (.quiet 49 (.quiet 50 (.quiet 51 .done))) (.fin)) (.alt 48 (.alt 45 (.quiet 49 (.quiet 50 (.quiet 51 .done))) (.fin)) (.fin))) (.fin))))))))))))))))))) (.fin)) (.fin)) (.fin)))))))))))))))))))))))))))) (.fin)) (fun w' => w'.cell? ⟨w.heap.size, 0, none⟩ = some (.int .u64 (u k.1)) ∧ w'.cell? ⟨w.heap.size, 1, none⟩ = some (.int .u64 (u k.2)) ∧ w'.cell? ⟨w.heap.size + 1, 0, none⟩ = some (.int .u64 (u a))) (by as_aux_lemma => kernel_rfl) (by as_aux_lemma => kernel_rfl) (by as_aux_lemma => kernel_rfl) (by as_aux_lemma => kernel_rfl) (by as_aux_lemma => kernel_rfl) (by as_aux_lemma => kernel_rfl) (by as_aux_lemma => kernel_rfl) (by as_aux_lemma => kernel_rfl) (by first | exact HU.out | exact box3_kept hg1 hbl hcl HU.out | exact box3_kept hg2 hbl hcl HU.out | exact box3_kept hg3 hbl hcl HU.out | exact box3_kept hg4 hbl hcl HU.out | exact box3_kept hg5 hbl hcl HU.out) ?_
  repeat' (first
    | (refine t_float (v := ?_) (a' := ?_) rfl rfl rfl ?_ ?_ ?_
       rotate_left 2
       · (intro w' hU; (try dsimp only at hU); go_simp; with_reducible rfl)
       · (simp only [Act.put, List.setIfInBounds_toArray, List.set_cons_zero, List.set_cons_succ]; rfl))
    | (refine t_bound (v := ?_) (a' := ?_) rfl rfl rfl ?_ ?_ ?_
       rotate_left 2
       · (go_simp; with_reducible rfl)
       · (simp only [Act.put, List.setIfInBounds_toArray, List.set_cons_zero, List.set_cons_succ]; rfl))
    | (refine t_skip (a' := ?_) rfl rfl ?_ ?_
       rotate_left 1
       · (simp only [Act.put, List.setIfInBounds_toArray, List.set_cons_zero, List.set_cons_succ]; rfl))
    | exact t_fin
    | (refine t_acts rfl rfl (fun K hK => ?_) ?_
       first | ((first | (refine wp_str _ _ _ _ _ rfl Try.underlying25 Try.underlying5 Try.underlying9 (.slice ao2 l.length cap2) l rfl (by first | exact HR.out.kept hg2 (fun _ _ _ _ f => f) | exact HR.out.kept hg1 (fun _ _ _ _ f => f)) ?_) | (refine wp_str _ _ _ _ _ rfl Try.underlying25 Try.underlying5 Try.underlying9 v4 (putB a) rfl (by first | exact ho4.rd.kept hf5 (fun _ _ _ _ f => f) | exact ho4.rd) ?_)); simp only [Act.put, List.setIfInBounds_toArray, List.set_cons_zero, List.set_cons_succ]) | (go_simp; try (go_wp2_with (first | (go_at_call 27; refine (told1_any _).mono ?_; rintro e w1 ⟨rfl, hf1⟩; have hg1 := (Fr.refl none_ w0).drew.trans hf1) | (go_at_call 32; refine (ssum_any k (.slice ao2 l.length cap2) l _ (HR.out.kept hg1 (fun _ _ _ _ f => f)) (by omega)).mono ?_; rintro e w2 ⟨rfl, hf2⟩; have hg2 := hg1.trans hf2) | (go_at_call 33; refine (rsum_any k l _ (by omega)).mono ?_; rintro e w3 ⟨rfl, hf3⟩; have hg3 := hg2.trans hf3; obtain ⟨p3, q3, r3⟩ := box3_kept hg3 hbl hcl HU.out) | (go_at_call 34; refine (put_any a _).mono ?_; rintro e w4 ⟨v4, rfl, ho4, hf4⟩; have hg4 := hg3.trans hf4) | (go_at_call 35; refine (rput_any a _).mono ?_; rintro e w5 ⟨rfl, hf5⟩; have hg5 := hg4.trans hf5))))
       refine hK.out _ _ (by first | exact HU.out | exact box3_kept hg1 hbl hcl HU.out | exact box3_kept hg2 hbl hcl HU.out | exact box3_kept hg3 hbl hcl HU.out | exact box3_kept hg4 hbl hcl HU.out | exact box3_kept hg5 hbl hcl HU.out) ?_
       clear hK K))
  all_goals (refine t_done ?_)
  all_goals
    go_wp2
    go_ret
    exact ⟨rfl, HF.out.trans hg5⟩

namespace sipAsks
open Go Go.ChangeShapes Go.WideShapes Go.ChangeAt Go.RowKit
set_option linter.unusedVariables false
set_option maxRecDepth 100000 in
theorem lifted (os : Os) (started : os.Started) (H : Type) (enc : TypeId × Value → H) :
    ReturnsInHanded {} Try.checked os 3 .any (Rows.sipAsksSpec.pre6 enc Try.prog Try.f3 Rows.sipAsksRow.domain false) (Rows.sipAsksSpec.post enc Try.prog Try.f3 false true false false) := by
  refine returnsInHanded_of_change (C := Try.checked) owned started (by kernel_rfl) Try.func3
    (ChangeSpec.witness6 (enc := enc) (C := Try.checked) false ⟨#[], #[.agg #[.int .u64 0, .int .u64 0], .agg #[.int .u64 0, .int .u64 0, .int .u64 0, .int .u64 0], .slice none 0 0, .int .i64 0], []⟩ 8 (by kernel_rfl) (by kernel_rfl) (by kernel_rfl) (by kernel_rfl)) ?_
  intro W base args ds gs before hval0 hW hcnd _
  have hval : ∀ (j : Nat) t v, Try.f3.params[j]? = some t → args[j]? = some v → Value.okWide Try.prog W .any base t v := hval0
  have hW' := hW
  obtain ⟨p, q, hA0, hV, rfl, hfz, hnd⟩ := hW
  have hA : DataW.TrodAll enc Try.prog W 0 (fun _ => true) true Try.f3.params.toList args.toList ds p := hA0
  rw [Try.params3] at hA hval
  obtain ⟨v0, vs0, d0, ds0, p0, q0, hargs, rfl, rfl, h0, r0⟩ := trodAll_cons hA
  obtain ⟨v1, vs1, d1, ds1, p1, q1, rfl, rfl, rfl, h1, r1⟩ := trodAll_cons r0
  obtain ⟨v2, vs2, d2, ds2, p2, q2, rfl, rfl, rfl, h2, r2⟩ := trodAll_cons r1
  obtain ⟨v3, vs3, d3, ds3, p3, q3, rfl, rfl, rfl, h3, r3⟩ := trodAll_cons r2
  obtain ⟨rfl, rfl, rfl⟩ := trodAll_nil r3
  obtain rfl : args = #[v0, v1, v2, v3] := by cases args; simp_all
  obtain ⟨rfl, rfl⟩ := trodVars_none hV
  have k0 := h0
  have lt0 : ∀ x ∈ p0, x.block < W.heap.size := by obtain ⟨m, hm⟩ := k0; exact DataW.trod_lt m _ _ _ hm
  have k1 := h1
  have lt1 : ∀ x ∈ p1, x.block < W.heap.size := by obtain ⟨m, hm⟩ := k1; exact DataW.trod_lt m _ _ _ hm
  have k2 := h2
  have lt2 : ∀ x ∈ p2, x.block < W.heap.size := by obtain ⟨m, hm⟩ := k2; exact DataW.trod_lt m _ _ _ hm
  have k3 := h3
  have lt3 : ∀ x ∈ p3, x.block < W.heap.size := by obtain ⟨m, hm⟩ := k3; exact DataW.trod_lt m _ _ _ hm
  obtain ⟨x0, rfl⟩ := open_arr2 Try.underlying23 Try.underlying22 (by kernel_rfl) (by kernel_rfl) (hval 0 23 v0 rfl rfl) h0
  obtain ⟨x1, rfl⟩ := open_arr4 Try.underlying24 Try.underlying22 (by kernel_rfl) (by kernel_rfl) (hval 1 24 v1 rfl rfl) h1
  obtain ⟨x2, hr2⟩ := open_bytes Try.underlying25 Try.underlying5 (by kernel_rfl) (hval 2 25 v2 rfl rfl) h2
  obtain ⟨x3, rfl, bl3, bh3⟩ := open_num Try.underlying3 (hval 3 3 v3 rfl rfl) h3
  clear hA0 hval0
  refine (walk_SipAsks W x0 x1 v2 x2 hr2 x3 bl3 bh3).mono fun e W' ⟨he, fr⟩ => ?_
  subst he
  have bel := fr.below
  exact ⟨_, rfl, _, _, _, [], _, [], hW', trodAll_mk1 (shut_bool Try.underlying4 _), (trodAll_cons_mk (Below.trod laid (by kernel_rfl) (of_decide_eq_true (by kernel_rfl)) k0 bel lt0) (trodAll_cons_mk (Below.trod laid (by kernel_rfl) (of_decide_eq_true (by kernel_rfl)) k1 bel lt1) (trodAll_cons_mk (Below.trod laid (by kernel_rfl) (of_decide_eq_true (by kernel_rfl)) k2 bel lt2) (trodAll_cons_mk (Below.trod laid (by kernel_rfl) (of_decide_eq_true (by kernel_rfl)) k3 bel lt3) trodAll_mk0)))), rfl, bel.frame _, fun h => by cases h⟩

theorem inPlace : Try.prog.inPlace 3 = [] := inPlace_none _ _ (by kernel_rfl)
theorem closed : joinedFacts Try.prog 3 Try.f3 Rows.sipAsksSpec Rows.sipAsksRow = true := by
  unfold joinedFacts
  repeat' (with_reducible refine and_mk ?_ ?_)
  all_goals first
    | with_reducible exact enters
    | with_reducible exact laid
    | with_reducible exact rowed
    | with_reducible exact noStops
    | with_reducible exact noKnobs
    | with_reducible exact heard
    | (rw [lifts]; as_aux_lemma => kernel_rfl)
    | (rw [makes]; as_aux_lemma => kernel_rfl)
    | (rw [plains]; as_aux_lemma => kernel_rfl)
    | (rw [inPlace]; as_aux_lemma => kernel_rfl)
    | as_aux_lemma => kernel_rfl
theorem named : Try.prog.funcNamed Rows.sipAsksRow.func = some 3 := by kernel_rfl
theorem isOne : (Try.f3).isInstance Try.prog Rows.sipAsksRow.origin Rows.sipAsksRow.targs := of_decide_eq_true (by kernel_rfl)
theorem wraps : (Try.f3).isWrapper Try.prog Rows.sipAsksRow.wrapper Rows.sipAsksRow.mainSum := by unfold Func.isWrapper; first | (rw [if_pos (by decide +kernel)]; kernel_rfl) | (rw [if_neg (by decide +kernel)]; exact ⟨rfl, rfl⟩)
theorem over : Rows.sipAsksRow.holds Try.pinned (OpenSpec.ofChange Rows.sipAsksSpec) :=
  OpenClaim.holds_of_wide 3 Try.f3 rfl rfl rfl rfl rfl rfl rfl ⟨rfl, rfl, rfl, rfl, rfl⟩ rfl rfl rfl rfl rfl named Try.func3 closed
    isOne wraps
    (fun os started H enc _ => lifted os started H enc)

/-- THE STATEMENT. -/
theorem proved : Rows.SipAsksSaid := over
#print axioms proved
end sipAsks
end Go.Proofs.Ytandenkoejbloaa
