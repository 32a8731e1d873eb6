/- Walk of layer 2's told. -/
import Derived.Test.YtandenkoejbloaaRoot
import Derived.Test.YtandenkoejbloaaEq
namespace Go.Proofs.Ytandenkoejbloaa
open Go Go.RowKit

theorem word_tag (t : W × W) : wordAt (tagB t) 0 = t.1 ∧ wordAt (tagB t) 8 = t.2 := by
  unfold tagB
  constructor
  · rw [wordAt_append _ _ 0 (by rw [putB_length]; omega), word_put]
  · rw [wordAt_behind _ _ 8 (by rw [putB_length]), word_put]
theorem Rd.take {w : World} {ao : Option Addr} {n cap : Nat} {vs : List Value} (h : Rd w (.slice ao n cap) vs) (k : Nat) (hk : k ≤ vs.length) : Rd w (.slice ao k cap) (vs.take k) := by
  obtain ⟨ao', cap', e1, h1, h2, h3⟩ := h
  simp only [Value.slice.injEq] at e1
  obtain ⟨rfl, _, rfl⟩ := e1
  have hl : (vs.take k).length = k := by rw [List.length_take]; omega
  refine ⟨ao, cap, by rw [hl], by rw [hl]; omega, h2, fun j x hj => h3 j x ?_⟩
  have hjk := (List.getElem?_eq_some_iff.1 hj).1
  rw [hl] at hjk
  rwa [List.getElem?_take_of_lt hjk] at hj
theorem cells4_kept {w w' : World} {b c : Nat} {x y z q : Value} (hf : Fr none_ w w') (hb : b < w.heap.size) (hc : c < w.heap.size) (h : w.cell? ⟨b, 0, none⟩ = some x ∧ w.cell? ⟨b, 1, none⟩ = some y ∧ w.cell? ⟨c, 0, none⟩ = some z ∧ w.cell? ⟨c, 1, none⟩ = some q) :
    w'.cell? ⟨b, 0, none⟩ = some x ∧ w'.cell? ⟨b, 1, none⟩ = some y ∧ w'.cell? ⟨c, 0, none⟩ = some z ∧ w'.cell? ⟨c, 1, none⟩ = some q :=
  ⟨(hf.cell hb (fun f => f)).trans h.1, (hf.cell hb (fun f => f)).trans h.2.1, (hf.cell hc (fun f => f)).trans h.2.2.1, (hf.cell hc (fun f => f)).trans h.2.2.2⟩
theorem xor1_ne (x : W) : (x == x ^^^ 1) = false := by
  rw [beq_eq_false_iff_ne]
  intro h
  have h2 := congrArg (fun y => x ^^^ y) h
  simp only [BitVec.xor_self, ← BitVec.xor_assoc, BitVec.zero_xor] at h2
  exact absurd h2 (by decide)

set_option maxRecDepth 100000 in
set_option maxHeartbeats 6400000 in
theorem told2_any (w : World) : Calls Try.prog 39 #[] w fun e w' => e = .returned (.bool true) ∧ Fr none_ w w' := by
  have hcv : ∀ w : World, (convert 25 25 (.slice (some ⟨w.heap.size, 0, none⟩) 1 1)).run Try.prog (w.alloc (.cells #[.int .u8 97] 5)) = .ok (.slice (some ⟨w.heap.size, 0, none⟩) 1 1) (w.alloc (.cells #[.int .u8 97] 5 (1, 2))) := fun w => run_convert_made Try.underlying25 Try.underlying5 #[.int .u8 97] 1 1
  have hr1 : ∀ w : World, Rd (w.alloc (.cells #[.int .u8 97] 5 (1, 2))) (.slice (some ⟨w.heap.size, 0, none⟩) 1 1) ([97].map bv) := fun w => rd_made_fz w ([97].map bv) 5 (1, 2) (by show 1 ≤ maxLen; decide)
  have HF1 := Lib.hid ((Fr.refl none_ w).alloc (.cells #[.int .u8 97] 5 (1, 2)))
  have hcall : Calls Try.prog 42 #[.agg #[.int .u64 1, .int .u64 2], .slice (some ⟨w.heap.size, 0, none⟩) 1 1] (w.alloc (.cells #[.int .u8 97] 5 (1, 2))) fun e w' => e = .returned (keyv (tagW (1, 2) [97])) ∧ Fr none_ (w.alloc (.cells #[.int .u8 97] 5 (1, 2))) w' := mtag_any (1, 2) _ [97] _ (hr1 w) (by decide)
  have HC := Lib.hid hcall
  have hsum : sumW (1, 2) [97] = (tagW (1, 2) [97]).1 := rfl
  clear hcall
  have HS : ∀ (wa : World) (v : Value), Rd wa v ([97].map bv) → Calls Try.prog 32 #[.agg #[.int .u64 1, .int .u64 2], v] wa fun e w' => e = .returned (.int .u64 (u (tagW (1, 2) [97]).1)) ∧ Fr none_ wa w' := fun wa v hv => by rw [← hsum]; exact ssum_any (1, 2) v [97] wa hv (by decide)
  have HOf : ∀ wa : World, Calls Try.prog 49 #[.int .u64 7, .int .i64 1, .int .i64 0] wa fun e w' => e = .returned (keyv (deriveW (deriveW (rootW 7) whoL 1) genL 0)) ∧ Fr none_ wa w' := fun wa => of_any 7 1 0 wa
  have HRo : ∀ wa : World, Calls Try.prog 47 #[.int .u64 7] wa fun e w' => e = .returned (keyv (rootW 7)) ∧ Fr none_ wa w' := fun wa => root_any 7 wa
  have HD1 : ∀ wa : World, Calls Try.prog 45 #[keyv (rootW 7), .string { data := #[119, 104, 111] }, .int .u64 1] wa fun e w' => e = .returned (keyv (deriveW (rootW 7) whoL 1)) ∧ Fr none_ wa w' := fun wa => derive_any (rootW 7) whoL 1 wa (by decide)
  have HD2 : ∀ wa : World, Calls Try.prog 45 #[keyv (deriveW (rootW 7) whoL 1), .string { data := #[103, 101, 110] }, .int .u64 0] wa fun e w' => e = .returned (keyv (deriveW (deriveW (rootW 7) whoL 1) genL 0)) ∧ Fr none_ wa w' := fun wa => derive_any (deriveW (rootW 7) whoL 1) genL 0 wa (by decide)
  generalize deriveW (deriveW (rootW 7) whoL 1) genL 0 = k3 at *
  generalize deriveW (rootW 7) whoL 1 = k2 at *
  generalize rootW 7 = k1 at *
  generalize tagW (1, 2) [97] = t at *
  have HS1 : ∀ wa : World, Calls Try.prog 41 #[.agg #[.int .u64 (u t.1), .int .u64 (u t.2)], .agg #[.int .u64 (u t.1), .int .u64 (u t.2)]] wa fun e w' => e = .returned (.bool true) ∧ Fr none_ wa w' := fun wa => by have := msame_any t t wa; unfold keyv at this; simpa only [beq_self_eq_true, Bool.and_self] using this
  have HS2 : ∀ wa : World, Calls Try.prog 41 #[.agg #[.int .u64 (u t.1), .int .u64 (u t.2)], .agg #[.int .u64 (u t.1), .int .u64 (u (t.2 ^^^ 1))]] wa fun e w' => e = .returned (.bool false) ∧ Fr none_ wa w' := fun wa => by have := msame_any t (t.1, t.2 ^^^ 1) wa; unfold keyv at this; simpa only [xor1_ne, Bool.and_false] using this
  have hx1 : bits .xor .u64 (u t.2) 1 = u (t.2 ^^^ 1) := u_bits_xor t.2 1
  have hw : (wordAt (tagB t) 0, wordAt (tagB t) 8) = t := Prod.ext (word_tag t).1 (word_tag t).2
  unfold keyv at HOf HRo HD1 HD2 HC
  go_enter Try.func39, Try.ntmps39
  go_wp2_with fail
  refine HC.out.mono ?_
  rintro e w1 ⟨rfl, hf1⟩
  have HF1 := Lib.hid (HF1.out.trans hf1)
  clear HC hf1
  have hB1 := Blk.new w1 #[.int .u64 (u t.1), .int .u64 (u t.2)] 52
  have HF1 := Lib.hid (HF1.out.alloc (.cells #[.int .u64 (u t.1), .int .u64 (u t.2)] 52))
  go_wp2_with fail
  generalize hwB : w1.alloc (.cells #[.int .u64 (u t.1), .int .u64 (u t.2)] 52) = wB at *
  generalize w1.heap.size = b1 at *
  refine (mbytes_any t wB).mono ?_
  rintro e w2 ⟨v2, rfl, ho2, hf2⟩
  have hB2 := hB1.kept hf2 (fun f => f)
  have HF2 := Lib.hid (HF1.out.trans hf2)
  obtain ⟨g, off, cap, rfl, hb, hg, hc1, hc2, _⟩ := ho2.at (by rw [List.length_map, tagB_length]; omega)
  have hr2 := ho2.rd
  simp only [List.length_map, tagB_length] at *
  clear hB1 HF1 hf2 ho2 hwB
  go_wp2_with fail
  refine (from_ok _ (tagB t) w2 hr2 (tagB_length t)).mono ?_
  rw [hw]
  unfold keyv
  rintro e w3 ⟨rfl, hf3⟩
  have hr3 := hr2.kept hf3 (fun _ _ _ _ f => f)
  have hB3 := hB2.kept hf3 (fun f => f)
  have HF3 := Lib.hid (HF2.out.trans hf3)
  clear hr2 hB2 HF2 hf3
  have hT3 := Blk.new w3 #[.int .u64 (u t.1), .int .u64 (u t.2)] 52
  have hB3 := hB3.alloc (.cells #[.int .u64 (u t.1), .int .u64 (u t.2)] 52)
  have hr3 := hr3.alloc (.cells #[.int .u64 (u t.1), .int .u64 (u t.2)] 52)
  have HF3 := Lib.hid (HF3.out.alloc (.cells #[.int .u64 (u t.1), .int .u64 (u t.2)] 52))
  have hmin : min (16 : Int) 15 = 15 := by decide
  have hle : decide ((15 : Int) ≤ (cap : Int)) = true := by simp; omega
  unfold maxLen at hc2
  go_wp2_with fail
  generalize hwB : w3.alloc (.cells #[.int .u64 (u t.1), .int .u64 (u t.2)] 52) = wB at *
  generalize w3.heap.size = b3 at *
  have hr15 := hr3.take 15 (by rw [List.length_map, tagB_length]; omega)
  rw [← List.map_take] at hr15
  refine (from_bad _ ((tagB t).take 15) wB hr15 (by rw [List.length_take, tagB_length]; decide)).mono ?_
  rw [show keyv (0, 0) = Value.agg #[.int .u64 0, .int .u64 0] from rfl]
  rintro e w4 ⟨rfl, hf4⟩
  have hB4 := hB3.kept hf4 (fun f => f)
  have hT4 := hT3.kept hf4 (fun f => f)
  have HF4 := Lib.hid (HF3.out.trans hf4)
  clear hr3 hB3 hT3 HF3 hf4 hr15 hwB hmin hle
  have hB4 := hB4.alloc (.cells #[.int .u64 0, .int .u64 0] 52)
  have hT4 := hT4.alloc (.cells #[.int .u64 0, .int .u64 0] 52)
  have HF4 := Lib.hid (HF4.out.alloc (.cells #[.int .u64 0, .int .u64 0] 52))
  go_wp2_with fail
  generalize hwC : w4.alloc (.cells #[.int .u64 0, .int .u64 0] 52) = w0 at *
  have hbl := hB4.lt
  have hbt := hT4.lt
  have HU := Lib.hid (show w0.cell? ⟨b1, 0, none⟩ = some (.int .u64 (u t.1)) ∧ w0.cell? ⟨b1, 1, none⟩ = some (.int .u64 (u t.2)) ∧ w0.cell? ⟨b3, 0, none⟩ = some (.int .u64 (u t.1)) ∧ w0.cell? ⟨b3, 1, none⟩ = some (.int .u64 (u t.2)) from ⟨hB4.cell_of rfl, hB4.cell_of rfl, hT4.cell_of rfl, hT4.cell_of rfl⟩)
  clear hB4 hT4 hwC
  obtain ⟨z0, z1, z2, z3⟩ := HU.out
  refine region_tm [19, 29, 36, 37, 38, 42, 43, 44, 45] [4, 5, 17, 18, 22, 24, 26] [0, 1, 2, 4, 8, 8, 56, 72, 136, 256, 768, 1280, 2304, 4096, 12288, 20480, 36864, 65536, 65536, 458752, 589824, 1572864, 2097152, 2097152, 10485760, 2097152, 35651584, 69206016, 153092096, 274726912, 538968064, 1075838976, 2684354560, 4294967296, 12884901888, 4294967296, 4294967296, 73014444032, 176093659136, 296352743424, 554050781184, 1374389534720, 2199023255552, 6597069766656, 10995116277760, 19791209299968, 41781441855488, 72567767433216, 281474976710655] [562949953421311, 562949953421310, 562949953421309, 562949953421307, 562949953421303, 562949953421303, 562949953421255, 562949953421239, 562949953421183, 562949953421055, 562949953420543, 562949953420031, 562949953419263, 562949953417215, 562949953409023, 562949953400831, 562949953388543, 562949953355775, 562949953355775, 0, 562949952831487, 562949952372735, 562949951324159, 562949951324159, 562949942935551, 562949951324159, 562949917769727, 562949884215295, 562949800329215, 0, 562949414453247, 562948877582335, 562947805937663, 562945658454015, 562937068519423, 562945658454015, 0, 0, 0, 562653600677887, 562395902640127, 561850441793535, 0, 0, 0, 0, 521168511565823, 490382185988095, 422212465065983] [0, 1, 3, 7, 15, 15, 63, 127, 255, 511, 1023, 2047, 4095, 8191, 16383, 32767, 65535, 131071, 131071, 524287, 1048575, 2097151, 4194303, 4194303, 12582911, 4194303, 37748735, 104857599, 264241151, 536870911, 1073741823, 2147483647, 4294967295, 8589934591, 17179869183, 8589934591, 8589934591, 77309411327, 249108103167, 549755813887, 1099511627775, 2199023255551, 4398046511103, 8796093022207, 17592186044415, 35184372088831, 70368744177663, 140737488355327, 281474976710655] 562949953421311 (.quiet 0 (.quiet 1 (.quiet 2 (.quiet 3 (.quiet 4 (.quiet 5 (.quiet 6 (.quiet 7 (.quiet 8 (.quiet 9 (.quiet 10 (.quiet 11 (.quiet 12 (.quiet 13 (.quiet 14 (.quiet 15 (.quiet 16 (.quiet 17 (.quiet 18 (.alt 19 (.quiet 20 (.quiet 21 (.quiet 22 (.quiet 23 (.quiet 24 (.quiet 25 (.quiet 26 (.quiet 27 (.quiet 28 (.alt 29 (.quiet 30 (.quiet 31 (.quiet 32 (.quiet 33 (.quiet 34 (.quiet 35 (.alt 36 (.alt 37 (.alt 38 (.quiet 39 (.quiet 40 (.quiet 41 (.alt 42 (.alt 43 (.alt 44 (.alt 45 (.quiet 46 (.quiet 47 (.quiet 48 .done))) (.fin)) (.fin)) (.fin)) (.fin))))) (.fin)) (.fin)) (.fin)))))))) (.fin))))))))))) (.fin))))))))))))))))))))) (fun w' => w'.cell? ⟨b1, 0, none⟩ = some (.int .u64 (u t.1)) ∧ w'.cell? ⟨b1, 1, none⟩ = some (.int .u64 (u t.2)) ∧ w'.cell? ⟨b3, 0, none⟩ = some (.int .u64 (u t.1)) ∧ w'.cell? ⟨b3, 1, none⟩ = some (.int .u64 (u t.2))) (by as_aux_lemma => kernel_rfl) (by as_aux_lemma => kernel_rfl) (by as_aux_lemma => kernel_rfl) (by as_aux_lemma => kernel_rfl) (by as_aux_lemma => kernel_rfl) (by as_aux_lemma => kernel_rfl) (by as_aux_lemma => kernel_rfl) (by as_aux_lemma => kernel_rfl) (by first | with_reducible exact cells4_kept hg7 hbl hbt HU.out | with_reducible exact cells4_kept hg6 hbl hbt HU.out | with_reducible exact cells4_kept hg5 hbl hbt HU.out | with_reducible exact cells4_kept hg4 hbl hbt HU.out | with_reducible exact cells4_kept hg3 hbl hbt HU.out | with_reducible exact cells4_kept (hg2.alloc _) hbl hbt HU.out | with_reducible exact cells4_kept hg2 hbl hbt HU.out | with_reducible exact cells4_kept hg1 hbl hbt HU.out | exact HU.out) ?_
  repeat' (first
    | (refine t_float (v := ?_) (a' := ?_) rfl rfl rfl ?_ ?_ ?_
       rotate_left 2
       · (intro w' hU; (try dsimp only at hU); go_simp; with_reducible rfl)
       · (simp only [Act.put, List.setIfInBounds_toArray, List.set_cons_zero, List.set_cons_succ]; rfl))
    | (refine t_bound (v := ?_) (a' := ?_) rfl rfl rfl ?_ ?_ ?_
       rotate_left 2
       · (go_simp; with_reducible rfl)
       · (simp only [Act.put, List.setIfInBounds_toArray, List.set_cons_zero, List.set_cons_succ]; rfl))
    | (refine t_skip (a' := ?_) rfl rfl ?_ ?_
       rotate_left 1
       · (simp only [Act.put, List.setIfInBounds_toArray, List.set_cons_zero, List.set_cons_succ]; rfl))
    | exact t_fin
    | (refine t_acts rfl rfl (fun K hK => ?_) ?_
       go_simp; try (go_wp2_with (first | (go_at_call 45; have hq := hf6; refine (HD2 _).mono ?_; clear hq; rintro e w7 ⟨rfl, hf7⟩; have hg7 := hg6.trans hf7) | (go_at_call 45; have hq := hf5; refine (HD1 _).mono ?_; clear hq; rintro e w6 ⟨rfl, hf6⟩; have hg6 := hg5.trans hf6) | (go_at_call 47; have hq := hf4; refine (HRo _).mono ?_; clear hq; rintro e w5 ⟨rfl, hf5⟩; have hg5 := hg4.trans hf5) | (go_at_call 49; have hq := hf3; refine (HOf _).mono ?_; clear hq; rintro e w4 ⟨rfl, hf4⟩; have hg4 := hg3.trans hf4) | (go_at_call 32; have hq := hf2; refine (HS _ _ (hr1 w2)).mono ?_; clear hq; rintro e w3 ⟨rfl, hf3⟩; have hg3 := (hg2.alloc _).trans hf3) | (go_at_call 41; have hq := hf1; refine (HS2 _).mono ?_; clear hq; rintro e w2 ⟨rfl, hf2⟩; have hg2 := hg1.trans hf2; obtain ⟨x0, x1, x2, x3⟩ := cells4_kept hg2 hbl hbt HU.out) | (go_at_call 41; refine (HS1 _).mono ?_; rintro e w1 ⟨rfl, hf1⟩; have hg1 := (Fr.refl none_ w0).drew.trans hf1; obtain ⟨y0, y1, y2, y3⟩ := cells4_kept hg1 hbl hbt HU.out)))
       refine hK.out _ _ (by first | with_reducible exact cells4_kept hg7 hbl hbt HU.out | with_reducible exact cells4_kept hg6 hbl hbt HU.out | with_reducible exact cells4_kept hg5 hbl hbt HU.out | with_reducible exact cells4_kept hg4 hbl hbt HU.out | with_reducible exact cells4_kept hg3 hbl hbt HU.out | with_reducible exact cells4_kept (hg2.alloc _) hbl hbt HU.out | with_reducible exact cells4_kept hg2 hbl hbt HU.out | with_reducible exact cells4_kept hg1 hbl hbt HU.out | exact HU.out) ?_
       clear hK K))
  all_goals (refine t_done ?_)
  all_goals
    go_wp2
    go_ret
    exact ⟨rfl, HF4.out.trans hg7⟩
end Go.Proofs.Ytandenkoejbloaa
