/- Walk of layer 7's told. -/
import Derived.Test.YtandenkoejbloaaSeal2
import Derived.Test.YtandenkoejbloaaEqM
import Derived.Test.YtandenkoejbloaaEq
namespace Go.Proofs.Ytandenkoejbloaa
open Go Go.RowKit
def s1 : Ms := ⟨1, 2, 0, 1, 3, 9, 0⟩
def s3 : Ms := ⟨2, 2, 1, 2, 4, 0, 0⟩
theorem sl_ok {m : Ms} (h : mayM m = true) (k : W × W) (st : St) : slB k m = sealB k m ∧ slC m = 0 ∧ upS m st = (st.1, st.2 + 1) ∧ roS m st = (st.1 + 1, 0) := by
  unfold slB slC upS roS
  simp only [h, if_true]
  exact ⟨trivial, trivial, trivial, trivial⟩
theorem sl_no {m : Ms} (h : mayM m = false) (k : W × W) (st : St) : slB k m = [] ∧ slC m = 1 ∧ upS m st = st ∧ roS m st = st := by
  unfold slB slC upS roS
  simp [h]
set_option maxRecDepth 100000 in
set_option maxHeartbeats 12800000 in
theorem told7_any (w : World) : Calls Try.prog 76 #[] w fun e w' => e = .returned (.bool true) ∧ Fr none_ w w' := by
  have HN : ∀ wa : World, Calls Try.prog 74 #[.int .u64 4, .int .i64 2] wa fun e w' => ∃ b, e = .returned (.pointer (some ⟨b, 0, none⟩)) ∧ wa.heap.size ≤ b ∧ SlAt w' b 4 2 (0, 0) ∧ Fr none_ wa w' := fun wa => snew_ok 4 2 wa (by decide) (by decide)
  have HX : ∀ wa : World, Calls Try.prog 74 #[.int .u64 1, .int .i64 16] wa fun e w' => e = .returned (.pointer none) ∧ wa = w' := fun wa => snew_bad 1 16 wa (by decide)
  have HZ : ∀ wa : World, Calls Try.prog 84 #[.pointer none] wa fun e w' => e = .returned (.int .i64 (-1)) ∧ wa = w' := sseq_nil
  have HB : ∀ wa : World, Calls Try.prog 79 #[.pointer none, .int .i64 0] wa fun e w' => e = .returned (.tuple #[.slice none 0 0, .int .i64 1]) ∧ Fr none_ wa w' := sbeat_nil 0
  have HS1 : ∀ (wa : World) (b : Nat), SlAt wa b 4 2 (0, 0) → Calls Try.prog 77 #[.pointer (some ⟨b, 0, none⟩), .int .i64 0, .int .i64 3, .int .i64 9] wa fun e w' => ∃ v, e = .returned (.tuple #[v, .int .i64 0]) ∧ Own w' wa.heap.size 5 v ((sealB (ofW 4 2 0) s1).map bv) ∧ SlAt w' b 4 2 (0, 1) ∧ Fr (one_ b) wa w' := fun wa b h => by
    have := ssample_any h 0 3 9
    obtain ⟨h1, h2, h3, _⟩ := sl_ok (show mayM (nxM 2 (0, 0) 1 0 3 9 0) = true by decide) (ofW 4 2 0) (0, 0)
    rw [show ((0, 0) : St).1 = 0 from rfl, h1, h2, h3] at this
    exact this
  have HS2 : ∀ (wa : World) (b : Nat), SlAt wa b 4 2 (0, 1) → Calls Try.prog 77 #[.pointer (some ⟨b, 0, none⟩), .int .i64 9, .int .i64 3, .int .i64 9] wa fun e w' => ∃ v, e = .returned (.tuple #[v, .int .i64 1]) ∧ SlAt w' b 4 2 (0, 1) ∧ Fr (one_ b) wa w' := fun wa b h => by
    have := ssample_any h 9 3 9
    obtain ⟨h1, h2, h3, _⟩ := sl_no (show mayM (nxM 2 (0, 1) 1 0 3 9 9) = false by decide) (ofW 4 2 0) (0, 1)
    rw [show ((0, 1) : St).1 = 0 from rfl, h1, h2, h3] at this
    exact this.mono fun e w' ⟨v, a, _, c, d⟩ => ⟨v, a, c, d⟩
  have HR : ∀ (wa : World) (b : Nat), SlAt wa b 4 2 (0, 1) → Calls Try.prog 81 #[.pointer (some ⟨b, 0, none⟩), .int .i64 4] wa fun e w' => ∃ v, e = .returned (.tuple #[v, .int .i64 0]) ∧ Own w' wa.heap.size 5 v ((sealB (ofW 4 2 0) s3).map bv) ∧ SlAt w' b 4 2 (1, 0) ∧ Fr (one_ b) wa w' := fun wa b h => by
    have := srotate_any h 4
    obtain ⟨h1, h2, _, h3⟩ := sl_ok (show mayM (nxM 2 (0, 1) 2 (0 + 1) 4 0 0) = true by decide) (ofW 4 2 0) (0, 1)
    rw [show ((0, 1) : St).1 = 0 from rfl, h1, h2, h3] at this
    exact this
  have HY1 : ∀ (wa : World) (v : Value), Rd wa v ((sealB (ofW 4 2 0) s1).map bv) → Calls Try.prog 59 #[v] wa fun e w' => ∃ r, e = .returned (.tuple #[.agg #[.int .i64 1, .int .i64 2, .int .i64 0, .int .i64 1, .int .i64 3, .int .i64 9, .int .i64 0], r, keyv (tagW (ofW 4 2 0) (msgB s1)), .int .i64 0]) ∧ Own w' wa.heap.size 5 r ((msgB s1).map bv) ∧ Fr none_ wa w' := fun wa v h => split_seal (ofW 4 2 0) s1 (by decide) v wa h
  have HY3 : ∀ (wa : World) (v : Value), Rd wa v ((sealB (ofW 4 2 0) s3).map bv) → Calls Try.prog 59 #[v] wa fun e w' => ∃ r, e = .returned (.tuple #[.agg #[.int .i64 2, .int .i64 2, .int .i64 1, .int .i64 2, .int .i64 4, .int .i64 0, .int .i64 0], r, keyv (tagW (ofW 4 2 0) (msgB s3)), .int .i64 0]) ∧ Own w' wa.heap.size 5 r ((msgB s3).map bv) ∧ Fr none_ wa w' := fun wa v h => split_seal (ofW 4 2 0) s3 (by decide) v wa h
  have HT : ∀ (wa : World) (v : Value), Rd wa v ((msgB s3).map bv) → Calls Try.prog 42 #[keyv (ofW 4 2 0), v] wa fun e w' => e = .returned (keyv (tagW (ofW 4 2 0) (msgB s3))) ∧ Fr none_ wa w' := fun wa v h => mtag_any (ofW 4 2 0) v (msgB s3) wa h (by rw [msgB_length]; omega)
  have HO : ∀ wa : World, Calls Try.prog 49 #[.int .u64 4, .int .i64 2, .int .i64 0] wa fun e w' => e = .returned (keyv (ofW 4 2 0)) ∧ Fr none_ wa w' := fun wa => of_any 4 2 0 wa
  have HG : ∀ (wa : World) (b : Nat), SlAt wa b 4 2 (1, 0) → Calls Try.prog 83 #[.pointer (some ⟨b, 0, none⟩)] wa fun e w' => e = .returned (.int .i64 1) ∧ wa = w' := fun wa b h => sgen_any h
  have HQ : ∀ (wa : World) (b : Nat), SlAt wa b 4 2 (1, 0) → Calls Try.prog 84 #[.pointer (some ⟨b, 0, none⟩)] wa fun e w' => e = .returned (.int .i64 0) ∧ wa = w' := fun wa b h => sseq_any h
  generalize tagW (ofW 4 2 0) (msgB s1) = t1 at *
  generalize tagW (ofW 4 2 0) (msgB s3) = t3 at *
  generalize sealB (ofW 4 2 0) s1 = e1 at *
  generalize sealB (ofW 4 2 0) s3 = e3 at *
  generalize msgB s1 = p1 at *
  generalize msgB s3 = p3 at *
  generalize ofW 4 2 0 = kk at *
  have hem := eq_msg
  have het := eq_tag
  unfold keyv at *
  go_enter Try.func76, Try.ntmps76
  go_wp2_with fail
  refine (HN _).mono ?_
  rintro e w1 ⟨b, rfl, hb, hA, hF⟩
  have h1 := none_of_one hb
  clear HN hb
  go_wp2_with fail
  refine (HS1 _ b hA).mono ?_
  rintro e w2 ⟨v1, rfl, ho, hA2, hf⟩
  have hF2 := hF.step hf h1
  clear HS1 hA hF hf
  go_wp2_with fail
  refine (HY1 _ _ ho.rd).mono ?_
  rintro e w3 ⟨r1, rfl, _, hf⟩
  have hx := (hf.alloc (.cells #[.int .i64 1, .int .i64 2, .int .i64 0, .int .i64 1, .int .i64 3, .int .i64 9, .int .i64 0] 68)).alloc (.cells #[.int .u64 (u t1.1), .int .u64 (u t1.2)] 52)
  have hM1 := (Blk.new w3 #[.int .i64 1, .int .i64 2, .int .i64 0, .int .i64 1, .int .i64 3, .int .i64 9, .int .i64 0] 68).alloc (.cells #[.int .u64 (u t1.1), .int .u64 (u t1.2)] 52)
  have hA3 := hA2.kept hx (fun f => f)
  have hF3 := hF2.trans hx
  have hb1 : w3.heap.size ≠ b := by have := hA2.lt; have := hf.size; omega
  clear HY1 ho hA2 hF2 hf hx
  go_wp2_with fail
  generalize (w3.alloc (.cells #[.int .i64 1, .int .i64 2, .int .i64 0, .int .i64 1, .int .i64 3, .int .i64 9, .int .i64 0] 68)).alloc (.cells #[.int .u64 (u t1.1), .int .u64 (u t1.2)] 52) = w4 at *
  generalize w3.heap.size = b1 at *
  refine (HS2 _ b hA3).mono ?_
  rintro e w5 ⟨v2, rfl, hA5, hf⟩
  have hM5 := hM1.kept hf hb1
  have hF5 := hF3.step hf h1
  clear HS2 hA3 hF3 hf hM1
  go_wp2_with fail
  refine (HR _ b hA5).mono ?_
  rintro e w6 ⟨v3, rfl, ho, hA6, hf⟩
  have hM6 := hM5.kept hf hb1
  have hF6 := hF5.step hf h1
  clear HR hA5 hF5 hf hM5
  go_wp2_with fail
  refine (HY3 _ _ ho.rd).mono ?_
  rintro e w7 ⟨r3, rfl, ho3, hf⟩
  have hx := (hf.alloc (.cells #[.int .i64 2, .int .i64 2, .int .i64 1, .int .i64 2, .int .i64 4, .int .i64 0, .int .i64 0] 68)).alloc (.cells #[.int .u64 (u t3.1), .int .u64 (u t3.2)] 52)
  have hM7 := hM6.kept hx (fun f => f)
  have hN7 := (Blk.new w7 #[.int .i64 2, .int .i64 2, .int .i64 1, .int .i64 2, .int .i64 4, .int .i64 0, .int .i64 0] 68).alloc (.cells #[.int .u64 (u t3.1), .int .u64 (u t3.2)] 52)
  have hT7 := Blk.new (w7.alloc (.cells #[.int .i64 2, .int .i64 2, .int .i64 1, .int .i64 2, .int .i64 4, .int .i64 0, .int .i64 0] 68)) #[.int .u64 (u t3.1), .int .u64 (u t3.2)] 52
  rw [World.size_alloc] at hT7
  have hR7 := (ho3.alloc (.cells #[.int .i64 2, .int .i64 2, .int .i64 1, .int .i64 2, .int .i64 4, .int .i64 0, .int .i64 0] 68)).alloc (.cells #[.int .u64 (u t3.1), .int .u64 (u t3.2)] 52)
  have hA7 := hA6.kept hx (fun f => f)
  have hF7 := hF6.trans hx
  clear HY3 ho ho3 hA6 hF6 hf hx hM6
  go_wp2_with fail
  generalize (w7.alloc (.cells #[.int .i64 2, .int .i64 2, .int .i64 1, .int .i64 2, .int .i64 4, .int .i64 0, .int .i64 0] 68)).alloc (.cells #[.int .u64 (u t3.1), .int .u64 (u t3.2)] 52) = w8 at *
  generalize w7.heap.size = b3 at *
  refine (HB _).mono ?_
  rintro e w9 ⟨rfl, hf⟩
  have hM9 := hM7.kept hf (fun f => f)
  have hN9 := hN7.kept hf (fun f => f)
  have hT9 := hT7.kept hf (fun f => f)
  have hR9 := hR7.kept hf (fun _ _ f => f)
  have HA9 := Lib.hid (hA7.kept hf (fun f => f))
  have HF9 := Lib.hid (hF7.trans hf)
  have HR9 := Lib.hid hR9.rd
  have HK : ∀ w', Fr none_ w9 w' → (w'.cell? ⟨b1, 0, none⟩ = some (.int .i64 1) ∧ w'.cell? ⟨b1, 1, none⟩ = some (.int .i64 2) ∧ w'.cell? ⟨b1, 2, none⟩ = some (.int .i64 0) ∧ w'.cell? ⟨b1, 3, none⟩ = some (.int .i64 1) ∧ w'.cell? ⟨b1, 4, none⟩ = some (.int .i64 3) ∧ w'.cell? ⟨b1, 5, none⟩ = some (.int .i64 9) ∧ w'.cell? ⟨b1, 6, none⟩ = some (.int .i64 0)) ∧ (w'.cell? ⟨b3, 0, none⟩ = some (.int .i64 2) ∧ w'.cell? ⟨b3, 1, none⟩ = some (.int .i64 2) ∧ w'.cell? ⟨b3, 2, none⟩ = some (.int .i64 1) ∧ w'.cell? ⟨b3, 3, none⟩ = some (.int .i64 2) ∧ w'.cell? ⟨b3, 4, none⟩ = some (.int .i64 4) ∧ w'.cell? ⟨b3, 5, none⟩ = some (.int .i64 0) ∧ w'.cell? ⟨b3, 6, none⟩ = some (.int .i64 0)) ∧ w'.cell? ⟨(b3 + 1), 0, none⟩ = some (.int .u64 (u t3.1)) ∧ w'.cell? ⟨(b3 + 1), 1, none⟩ = some (.int .u64 (u t3.2)) := fun w' hf => ⟨hM9.c7 hf, hN9.c7 hf, hT9.c2 hf⟩
  clear HB hM7 hN7 hT7 hR7 hA7 hF7 hf hM9 hN9 hT9 hR9
  go_wp2_with fail
  have hg0 : Fr none_ w9 w9.drew := (Fr.refl _ _).drew
  try simp only [List.append_eq, List.cons_append, List.nil_append]
  refine region_tm [30, 32, 37, 42, 51, 55] [] [0, 1, 2, 4, 12, 20, 36, 64, 64, 448, 576, 1088, 2048, 6144, 10240, 18432, 32768, 98304, 163840, 294912, 524288, 1572864, 2621440, 4718592, 8388608, 8388608, 58720256, 75497472, 142606336, 268435456, 268435456, 268435456, 3489660928, 5100273664, 8858370048, 21474836480, 34359738368, 103079215104, 171798691840, 309237645312, 687194767360, 1099511627776, 3298534883328, 5497558138880, 9895604649984, 21990232555520, 35184372088832, 105553116266496, 175921860444160, 316659348799488, 562949953421312, 1688849860263936, 2814749767106560, 5066549580791808, 11258999068426240, 18014398509481984, 54043195528445952, 90071992547409920, 288230376151711743] [576460752303423487, 576460752303423486, 576460752303423485, 576460752303423483, 576460752303423475, 576460752303423467, 576460752303423455, 576460752303423423, 576460752303423423, 576460752303423039, 576460752303422911, 576460752303422463, 576460752303421439, 576460752303417343, 576460752303413247, 576460752303407103, 576460752303390719, 576460752303325183, 576460752303259647, 576460752303161343, 576460752302899199, 576460752301850623, 576460752300802047, 576460752299229183, 576460752295034879, 576460752295034879, 576460752244703231, 576460752227926015, 576460752169205759, 576460752034988031, 0, 576460752034988031, 0, 576460747203149823, 576460743445053439, 576460735123554303, 576460717943685119, 0, 576460580504731647, 576460443065778175, 576460202547609599, 576459652791795711, 0, 576455254745284607, 576450856698773503, 576443160117379071, 576425567931334655, 576355199187156991, 576284830442979327, 576179277326712831, 575897802350002175, 0, 573646002536316927, 571394202722631679, 567453553048682495, 0, 522417556774977535, 486388759756013567, 432345564227567615] [0, 1, 3, 7, 15, 31, 63, 127, 127, 511, 1023, 2047, 4095, 8191, 16383, 32767, 65535, 131071, 262143, 524287, 1048575, 2097151, 4194303, 8388607, 16777215, 16777215, 67108863, 134217727, 268435455, 536870911, 536870911, 536870911, 3758096383, 8589934591, 17179869183, 34359738367, 68719476735, 137438953471, 274877906943, 549755813887, 1099511627775, 2199023255551, 4398046511103, 8796093022207, 17592186044415, 35184372088831, 70368744177663, 140737488355327, 281474976710655, 562949953421311, 1125899906842623, 2251799813685247, 4503599627370495, 9007199254740991, 18014398509481983, 36028797018963967, 72057594037927935, 144115188075855871, 288230376151711743] 576460752303423487 (.quiet 0 (.quiet 1 (.quiet 2 (.quiet 3 (.quiet 4 (.quiet 5 (.quiet 6 (.quiet 7 (.quiet 8 (.quiet 9 (.quiet 10 (.quiet 11 (.quiet 12 (.quiet 13 (.quiet 14 (.quiet 15 (.quiet 16 (.quiet 17 (.quiet 18 (.quiet 19 (.quiet 20 (.quiet 21 (.quiet 22 (.quiet 23 (.quiet 24 (.quiet 25 (.quiet 26 (.quiet 27 (.quiet 28 (.quiet 29 (.quiet 31 (.alt 30 (.alt 32 (.quiet 33 (.quiet 34 (.quiet 35 (.quiet 36 (.alt 37 (.quiet 38 (.quiet 39 (.quiet 40 (.quiet 41 (.alt 42 (.quiet 43 (.quiet 44 (.quiet 45 (.quiet 46 (.quiet 47 (.quiet 48 (.quiet 49 (.quiet 50 (.alt 51 (.quiet 52 (.quiet 53 (.quiet 54 (.alt 55 (.quiet 56 (.quiet 57 (.quiet 58 .done))) (.fin))))) (.fin)))))))))) (.fin)))))) (.fin)))))) (.fin)) (.fin))))))))))))))))))))))))))))))))) (fun w' => (w'.cell? ⟨b1, 0, none⟩ = some (.int .i64 1) ∧ w'.cell? ⟨b1, 1, none⟩ = some (.int .i64 2) ∧ w'.cell? ⟨b1, 2, none⟩ = some (.int .i64 0) ∧ w'.cell? ⟨b1, 3, none⟩ = some (.int .i64 1) ∧ w'.cell? ⟨b1, 4, none⟩ = some (.int .i64 3) ∧ w'.cell? ⟨b1, 5, none⟩ = some (.int .i64 9) ∧ w'.cell? ⟨b1, 6, none⟩ = some (.int .i64 0)) ∧ (w'.cell? ⟨b3, 0, none⟩ = some (.int .i64 2) ∧ w'.cell? ⟨b3, 1, none⟩ = some (.int .i64 2) ∧ w'.cell? ⟨b3, 2, none⟩ = some (.int .i64 1) ∧ w'.cell? ⟨b3, 3, none⟩ = some (.int .i64 2) ∧ w'.cell? ⟨b3, 4, none⟩ = some (.int .i64 4) ∧ w'.cell? ⟨b3, 5, none⟩ = some (.int .i64 0) ∧ w'.cell? ⟨b3, 6, none⟩ = some (.int .i64 0)) ∧ w'.cell? ⟨(b3 + 1), 0, none⟩ = some (.int .u64 (u t3.1)) ∧ w'.cell? ⟨(b3 + 1), 1, none⟩ = some (.int .u64 (u t3.2))) (by as_aux_lemma => kernel_rfl) (by as_aux_lemma => kernel_rfl) (by as_aux_lemma => kernel_rfl) (by as_aux_lemma => kernel_rfl) (by as_aux_lemma => kernel_rfl) (by as_aux_lemma => kernel_rfl) (by as_aux_lemma => kernel_rfl) (by as_aux_lemma => kernel_rfl) (by first | exact HK _ hg2 | exact HK _ hg1 | exact HK _ hg0) ?_
  repeat' (first
    | (refine t_float (v := ?_) (a' := ?_) rfl rfl rfl ?_ ?_ ?_
       rotate_left 2
       · (intro w' hU; (try dsimp only at hU); go_simp; with_reducible rfl)
       · (simp only [Act.put, List.setIfInBounds_toArray, List.set_cons_zero, List.set_cons_succ]; rfl))
    | (refine t_bound (v := ?_) (a' := ?_) rfl rfl rfl ?_ ?_ ?_
       rotate_left 2
       · (go_simp; with_reducible rfl)
       · (simp only [Act.put, List.setIfInBounds_toArray, List.set_cons_zero, List.set_cons_succ]; rfl))
    | (refine t_skip (a' := ?_) rfl rfl ?_ ?_
       rotate_left 1
       · (simp only [Act.put, List.setIfInBounds_toArray, List.set_cons_zero, List.set_cons_succ]; rfl))
    | exact t_fin
    | (refine t_acts rfl rfl (fun K hK => ?_) ?_
       go_simp; try (go_wp2_with (first | (go_at_call 74; have hq := q107; refine (HX _).mono ?_; rintro e w' ⟨rfl, rfl⟩) | (go_at_call 84; have hq := q98; refine (HZ _).mono ?_; rintro e w' ⟨rfl, rfl⟩; have q107 := True.intro) | (go_at_call 84; have hq := q93; refine (HQ _ b (HA9.out.kept hg2 (fun f => f))).mono ?_; rintro e w' ⟨rfl, rfl⟩; have q98 := True.intro) | (go_at_call 83; have hq := hg2; refine (HG _ b (HA9.out.kept hg2 (fun f => f))).mono ?_; clear hq; rintro e w' ⟨rfl, rfl⟩; have q93 := True.intro) | (go_at_call 42; have hq := hg1; refine (HT _ _ (HR9.out.kept hg1 (fun _ _ _ _ f => f))).mono ?_; clear hq; rintro e w11 ⟨rfl, hf2⟩; have hg2 := hg1.trans hf2; clear hf2) | (go_at_call 49; refine (HO _).mono ?_; rintro e w10 ⟨rfl, hf1⟩; have hg1 := hg0.trans hf1; clear hf1)))
       refine hK.out _ _ (by first | exact HK _ hg2 | exact HK _ hg1 | exact HK _ hg0) ?_
       clear hK K))
  all_goals (refine t_done ?_)
  all_goals
    go_wp2_with fail
    go_ret
    exact ⟨rfl, HF9.out.trans hg2⟩
end Go.Proofs.Ytandenkoejbloaa
