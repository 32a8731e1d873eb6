/- For every input the law quorumitelaw4.WireSeals returns true: an envelope is the message's bytes and their tag; it splits into these. Conditions: none. -/
import Derived.Test.YtandenkoejbloaaTold4
import Derived.Test.YtandenkoejbloaaFacts
namespace Go.Proofs.Ytandenkoejbloaa
open Go Go.RowKit

set_option maxRecDepth 100000 in
set_option maxHeartbeats 12800000 in
theorem walk_WireSeals (w : World) (m : Ms) (_ : okM m) (k : W × W) : Calls Try.prog 19 #[msgv m, .agg #[.int .u64 (u k.1), .int .u64 (u k.2)]] w fun e w' => e = .returned (.bool true) ∧ Fr none_ w w' := by
  have HM := fun wa => may_any m wa
  have hqm : ∀ wa : World, (Op.equalIn 10000 68 (.agg #[.int .i64 m.kind, .int .i64 m.who, .int .i64 m.gen, .int .i64 m.seq, .int .i64 m.epoch, .int .i64 m.value, .int .i64 m.metric]) (.agg #[.int .i64 m.kind, .int .i64 m.who, .int .i64 m.gen, .int .i64 m.seq, .int .i64 m.epoch, .int .i64 m.value, .int .i64 m.metric])).run Try.prog wa = .ok true wa := fun wa => by have := eq_msgs m m wa; rw [decide_eq_true rfl] at this; exact this
  have hA := (Blk.new w #[.int .i64 m.kind, .int .i64 m.who, .int .i64 m.gen, .int .i64 m.seq, .int .i64 m.epoch, .int .i64 m.value, .int .i64 m.metric] 68).alloc (.cells #[.int .u64 (u k.1), .int .u64 (u k.2)] 23)
  have hB := Blk.new (w.alloc (.cells #[.int .i64 m.kind, .int .i64 m.who, .int .i64 m.gen, .int .i64 m.seq, .int .i64 m.epoch, .int .i64 m.value, .int .i64 m.metric] 68)) #[.int .u64 (u k.1), .int .u64 (u k.2)] 23
  rw [World.size_alloc] at hB
  have hF := ((Fr.refl none_ w).alloc (.cells #[.int .i64 m.kind, .int .i64 m.who, .int .i64 m.gen, .int .i64 m.seq, .int .i64 m.epoch, .int .i64 m.value, .int .i64 m.metric] 68)).alloc (.cells #[.int .u64 (u k.1), .int .u64 (u k.2)] 23)
  cases hma : mayM m
  · have HS := fun wa => seal_bad k m wa hma
    rw [hma] at HM
    unfold msgv keyv at *
    go_enter Try.func19, Try.ntmps19
    go_wp2_with fail
    generalize (w.alloc (.cells #[.int .i64 m.kind, .int .i64 m.who, .int .i64 m.gen, .int .i64 m.seq, .int .i64 m.epoch, .int .i64 m.value, .int .i64 m.metric] 68)).alloc (.cells #[.int .u64 (u k.1), .int .u64 (u k.2)] 23) = w0 at *
    refine (HS w0).mono ?_
    rintro e w1 ⟨rfl, hf1⟩
    obtain ⟨a0, a1, a2, a3, a4, a5, a6⟩ := hA.at7 hf1
    go_wp2_with fail
    refine (HM w1).mono ?_
    rintro e w2 ⟨rfl, hf2⟩
    go_wp2_with fail
    refine (told4_any _).mono ?_
    rintro e w3 ⟨rfl, hf3⟩
    go_wp2
    go_ret
    exact ⟨rfl, ((hF.trans hf1).trans hf2).trans hf3⟩
  have HS := fun wa => seal_ok k m wa hma
  have HP := fun wa => wput_ok m wa hma
  rw [hma] at HM
  have hgm : getM (msgB m) = some m := get_msg hma
  have htk : (sealB k m).take 32 = msgB m := by unfold sealB; rw [List.take_left' (msgB_length m)]
  have hdr : (sealB k m).drop 32 = tagB (tagW k (msgB m)) := by unfold sealB; rw [List.drop_left' (msgB_length m)]
  have HX : ∀ (wa : World) (v : Value), Rd wa v ((sealB k m).map bv) → Calls Try.prog 59 #[v] wa fun e w' => ∃ r, e = .returned (.tuple #[msgv m, r, keyv (tagW k (msgB m)), .int .i64 0]) ∧ Own w' wa.heap.size 5 r ((msgB m).map bv) ∧ Fr none_ wa w' := fun wa v h => by
    have := split_ok v (sealB k m) m wa h (sealB_length _ _) (by rw [htk]; exact hgm)
    rw [htk, hdr, show (wordAt (tagB (tagW k (msgB m))) 0, wordAt (tagB (tagW k (msgB m))) 8) = tagW k (msgB m) from Prod.ext (word_tag _).1 (word_tag _).2] at this
    exact this
  have HT : ∀ (wa : World) (v : Value), Rd wa v ((msgB m).map bv) → Calls Try.prog 42 #[keyv k, v] wa fun e w' => e = .returned (keyv (tagW k (msgB m))) ∧ Fr none_ wa w' := fun wa v h => mtag_any k v (msgB m) wa h (by rw [msgB_length]; omega)
  have HSt : ∀ wa : World, Calls Try.prog 41 #[keyv (tagW k (msgB m)), keyv (tagW k (msgB m))] wa fun e w' => e = .returned (.bool true) ∧ Fr none_ wa w' := fun wa => by have := msame_any (tagW k (msgB m)) (tagW k (msgB m)) wa; simpa only [beq_self_eq_true, Bool.and_self] using this
  have hadd : Op.stringOp .add (bs (msgB m)) (bs (tagB (tagW k (msgB m)))) = pure (.string (bs (sealB k m))) := str_add _ _ (by rw [msgB_length, tagB_length]; omega)
  have hlm := msgB_length m
  have hls := sealB_length k m
  have hE1 : ((bs (msgB m)).toList == (bs (msgB m)).toList) = true := by simp
  have hE2 : ((bs (sealB k m)).toList == (bs (sealB k m)).toList) = true := by simp
  clear htk hdr hgm hma
  generalize tagW k (msgB m) = t at *
  generalize msgB m = pm at *
  generalize sealB k m = sm at *
  unfold msgv keyv at *
  go_enter Try.func19, Try.ntmps19
  go_wp2_with fail
  generalize (w.alloc (.cells #[.int .i64 m.kind, .int .i64 m.who, .int .i64 m.gen, .int .i64 m.seq, .int .i64 m.epoch, .int .i64 m.value, .int .i64 m.metric] 68)).alloc (.cells #[.int .u64 (u k.1), .int .u64 (u k.2)] 23) = w0 at *
  have HK : ∀ w' : World, Fr none_ w0 w' → (w'.cell? ⟨w.heap.size, 0, none⟩ = some (.int .i64 m.kind) ∧ w'.cell? ⟨w.heap.size, 1, none⟩ = some (.int .i64 m.who) ∧ w'.cell? ⟨w.heap.size, 2, none⟩ = some (.int .i64 m.gen) ∧ w'.cell? ⟨w.heap.size, 3, none⟩ = some (.int .i64 m.seq) ∧ w'.cell? ⟨w.heap.size, 4, none⟩ = some (.int .i64 m.epoch) ∧ w'.cell? ⟨w.heap.size, 5, none⟩ = some (.int .i64 m.value) ∧ w'.cell? ⟨w.heap.size, 6, none⟩ = some (.int .i64 m.metric)) ∧ (w'.cell? ⟨w.heap.size + 1, 0, none⟩ = some (.int .u64 (u k.1)) ∧ w'.cell? ⟨w.heap.size + 1, 1, none⟩ = some (.int .u64 (u k.2))) := fun w' hf => ⟨hA.at7 hf, hB.at2 hf⟩
  refine (HS w0).mono ?_
  rintro e w1 ⟨vs, rfl, hos, hf1⟩
  obtain ⟨⟨a0, a1, a2, a3, a4, a5, a6⟩, ⟨k0, k1⟩⟩ := HK w1 hf1
  go_wp2_with fail
  clear a0 a1 a2 a3 a4 a5 a6 k0 k1
  refine (HM w1).mono ?_
  rintro e w2 ⟨rfl, hf2⟩
  have hg2 := hf1.trans hf2
  obtain ⟨⟨a0, a1, a2, a3, a4, a5, a6⟩, ⟨k0, k1⟩⟩ := HK w2 hg2
  go_wp2_with fail
  clear a0 a1 a2 a3 a4 a5 a6 k0 k1
  refine (HP w2).mono ?_
  rintro e w3 ⟨vp, rfl, hop, hf3⟩
  have hg3 := hg2.trans hf3
  have hRs := hos.rd.kept (hf2.trans hf3) (fun _ _ _ _ f => f)
  go_wp2_with fail
  refine (HX w3 _ hRs).mono ?_
  rintro e w4 ⟨vy, rfl, hoy, hf4⟩
  go_wp2_with fail
  have hg5 := ((hg3.trans hf4).alloc (.cells #[.int .i64 m.kind, .int .i64 m.who, .int .i64 m.gen, .int .i64 m.seq, .int .i64 m.epoch, .int .i64 m.value, .int .i64 m.metric] 68)).alloc (.cells #[.int .u64 (u t.1), .int .u64 (u t.2)] 52)
  have hX := (Blk.new w4 #[.int .i64 m.kind, .int .i64 m.who, .int .i64 m.gen, .int .i64 m.seq, .int .i64 m.epoch, .int .i64 m.value, .int .i64 m.metric] 68).alloc (.cells #[.int .u64 (u t.1), .int .u64 (u t.2)] 52)
  have hT := Blk.new (w4.alloc (.cells #[.int .i64 m.kind, .int .i64 m.who, .int .i64 m.gen, .int .i64 m.seq, .int .i64 m.epoch, .int .i64 m.value, .int .i64 m.metric] 68)) #[.int .u64 (u t.1), .int .u64 (u t.2)] 52
  rw [World.size_alloc] at hT
  have HRs := Lib.hid (((hRs.kept hf4 (fun _ _ _ _ f => f)).alloc (.cells #[.int .i64 m.kind, .int .i64 m.who, .int .i64 m.gen, .int .i64 m.seq, .int .i64 m.epoch, .int .i64 m.value, .int .i64 m.metric] 68)).alloc (.cells #[.int .u64 (u t.1), .int .u64 (u t.2)] 52))
  have HRp := Lib.hid ((((hop.kept hf4 (fun _ _ f => f)).rd).alloc (.cells #[.int .i64 m.kind, .int .i64 m.who, .int .i64 m.gen, .int .i64 m.seq, .int .i64 m.epoch, .int .i64 m.value, .int .i64 m.metric] 68)).alloc (.cells #[.int .u64 (u t.1), .int .u64 (u t.2)] 52))
  have HRy := Lib.hid ((hoy.rd.alloc (.cells #[.int .i64 m.kind, .int .i64 m.who, .int .i64 m.gen, .int .i64 m.seq, .int .i64 m.epoch, .int .i64 m.value, .int .i64 m.metric] 68)).alloc (.cells #[.int .u64 (u t.1), .int .u64 (u t.2)] 52))
  clear hos hop hoy hRs hf1 hf2 hf3 hf4 hg2 hg3 HS HP HX HM
  generalize (w4.alloc (.cells #[.int .i64 m.kind, .int .i64 m.who, .int .i64 m.gen, .int .i64 m.seq, .int .i64 m.epoch, .int .i64 m.value, .int .i64 m.metric] 68)).alloc (.cells #[.int .u64 (u t.1), .int .u64 (u t.2)] 52) = w5 at *
  generalize hbx : w4.heap.size = bx at *
  generalize hbt : bx + 1 = bt at *
  have HK4 : ∀ w' : World, Fr none_ w5 w' → (w'.cell? ⟨w.heap.size, 0, none⟩ = some (.int .i64 m.kind) ∧ w'.cell? ⟨w.heap.size, 1, none⟩ = some (.int .i64 m.who) ∧ w'.cell? ⟨w.heap.size, 2, none⟩ = some (.int .i64 m.gen) ∧ w'.cell? ⟨w.heap.size, 3, none⟩ = some (.int .i64 m.seq) ∧ w'.cell? ⟨w.heap.size, 4, none⟩ = some (.int .i64 m.epoch) ∧ w'.cell? ⟨w.heap.size, 5, none⟩ = some (.int .i64 m.value) ∧ w'.cell? ⟨w.heap.size, 6, none⟩ = some (.int .i64 m.metric)) ∧ (w'.cell? ⟨w.heap.size + 1, 0, none⟩ = some (.int .u64 (u k.1)) ∧ w'.cell? ⟨w.heap.size + 1, 1, none⟩ = some (.int .u64 (u k.2))) ∧ (w'.cell? ⟨bx, 0, none⟩ = some (.int .i64 m.kind) ∧ w'.cell? ⟨bx, 1, none⟩ = some (.int .i64 m.who) ∧ w'.cell? ⟨bx, 2, none⟩ = some (.int .i64 m.gen) ∧ w'.cell? ⟨bx, 3, none⟩ = some (.int .i64 m.seq) ∧ w'.cell? ⟨bx, 4, none⟩ = some (.int .i64 m.epoch) ∧ w'.cell? ⟨bx, 5, none⟩ = some (.int .i64 m.value) ∧ w'.cell? ⟨bx, 6, none⟩ = some (.int .i64 m.metric)) ∧ (w'.cell? ⟨bt, 0, none⟩ = some (.int .u64 (u t.1)) ∧ w'.cell? ⟨bt, 1, none⟩ = some (.int .u64 (u t.2))) := fun w' hf => ⟨hA.at7 (hg5.trans hf), hB.at2 (hg5.trans hf), hX.at7 hf, hT.at2 hf⟩
  have HF5 := Lib.hid (hF.trans hg5)
  clear HK hA hB hX hT hF hg5
  have hSr : ∀ a : World, Fr none_ a a := fun a => Fr.refl none_ a
  obtain ⟨sa, sc, rfl, _, _, _⟩ := HRs.out
  obtain ⟨pa, pc, rfl, _, _, _⟩ := HRp.out
  obtain ⟨ya, yc, rfl, _, _, _⟩ := HRy.out
  have hsl : (sm.map bv).length = 48 := by rw [List.length_map, hls]
  have hpl : (pm.map bv).length = 32 := by rw [List.length_map, hlm]
  rw [hsl] at HRs
  rw [hpl] at HRp HRy
  rw [hsl, hpl]
  clear hsl hpl hls hlm
  refine region_flow [0, 1, 2, 6, 10, 18, 32, 96, 160, 288, 512, 1536, 2560, 4608, 8192, 24576, 40960, 73728, 139264, 262144, 262144, 1835008, 2359296, 4456448, 8388608, 25165824, 8388608, 75497472, 176160768, 276824064, 545259520, 1073741824, 1073741824, 1073741824, 13958643712, 20401094656, 35433480192, 103079215104, 137438953472, 412316860416, 137438953472, 1236950581248, 137438953472, 4535485464576, 8933531975680, 19928648253440, 35871566856192, 70506183131136, 281474976710655] [0, 1, 3, 7, 15, 31, 63, 127, 255, 511, 1023, 2047, 4095, 8191, 16383, 32767, 65535, 131071, 262143, 524287, 524287, 2097151, 4194303, 8388607, 16777215, 33554431, 16777215, 83886079, 268435455, 536870911, 1073741823, 2147483647, 2147483647, 2147483647, 15032385535, 34359738367, 68719476735, 137438953471, 274877906943, 549755813887, 274877906943, 1374389534719, 274877906943, 4672924418047, 13469017440255, 34359738367999, 70368744177663, 140737488355327, 281474976710655] (fun w' => Fr none_ w5 w') (gl [(fun v _ => v = Value.bool true), (fun v _ => v = Value.bool true), (fun v _ => v = Value.int .i64 0), (fun v _ => v = Value.bool true), (fun v _ => v = Value.bool true), (fun v _ => v = Value.bool true), (fun v _ => v = Value.int .i64 0), (fun v _ => v = Value.bool true), (fun v _ => v = Value.bool true), (fun v _ => v = Value.bool true), (fun v _ => v = Value.int .i64 0), (fun v _ => v = Value.bool true), (fun v _ => v = Value.bool true), (fun v _ => v = Value.bool true), (fun v _ => v = Value.slice sa 48 sc), (fun v _ => v = Value.int .i64 48), (fun v _ => v = Value.bool true), (fun v _ => v = Value.bool true), (fun v _ => v = Value.bool true), (fun v _ => v = Value.agg #[.int .i64 m.kind, .int .i64 m.who, .int .i64 m.gen, .int .i64 m.seq, .int .i64 m.epoch, .int .i64 m.value, .int .i64 m.metric]), (fun v _ => v = Value.agg #[.int .i64 m.kind, .int .i64 m.who, .int .i64 m.gen, .int .i64 m.seq, .int .i64 m.epoch, .int .i64 m.value, .int .i64 m.metric]), (fun v _ => v = Value.bool true), (fun v _ => v = Value.bool true), (fun v _ => v = Value.bool true), (fun v _ => v = Value.slice ya 32 yc), (fun v _ => v = Value.string (bs pm)), (fun v _ => v = Value.slice pa 32 pc), (fun v _ => v = Value.string (bs pm)), (fun v _ => v = Value.bool true), (fun v _ => v = Value.bool true), (fun v _ => v = Value.bool true), (fun v _ => v = Value.agg #[.int .u64 (u t.1), .int .u64 (u t.2)]), (fun v _ => v = Value.agg #[.int .u64 (u k.1), .int .u64 (u k.2)]), (fun v _ => v = Value.slice pa 32 pc), (fun v _ => v = Value.agg #[.int .u64 (u t.1), .int .u64 (u t.2)]), (fun v _ => v = Value.bool true), (fun v _ => v = Value.bool true), (fun v _ => v = Value.bool true), (fun v _ => v = Value.slice sa 48 sc), (fun v _ => v = Value.string (bs sm)), (fun v _ => v = Value.slice pa 32 pc), (fun v _ => v = Value.string (bs pm)), (fun v _ => v = Value.agg #[.int .u64 (u t.1), .int .u64 (u t.2)]), (fun v w' => Own w' w5.heap.size 5 v ((tagB t).map bv)), (fun v _ => v = Value.string (bs (tagB t))), (fun v _ => v = Value.string (bs sm)), (fun v _ => v = Value.bool true), (fun v _ => v = Value.bool true), (fun v _ => v = Value.bool true)]) (fun a b => Fr none_ a b) 92 (by as_aux_lemma => kernel_rfl) rfl rfl (by as_aux_lemma => kernel_rfl) (by as_aux_lemma => kernel_rfl) (by as_aux_lemma => kernel_rfl) (by as_aux_lemma => kernel_rfl) (gl_stable _ ?FS) ?FU ?FH ?FQ
  case FS =>
    simp only [List.forall_mem_cons]
    refine ⟨?_, ?_, ?_, ?_, ?_, ?_, ?_, ?_, ?_, ?_, ?_, ?_, ?_, ?_, ?_, ?_, ?_, ?_, ?_, ?_, ?_, ?_, ?_, ?_, ?_, ?_, ?_, ?_, ?_, ?_, ?_, ?_, ?_, ?_, ?_, ?_, ?_, ?_, ?_, ?_, ?_, ?_, ?_, ?_, ?_, ?_, ?_, ?_, ?_, fun g hg => by cases hg⟩
    all_goals (intro v w w' hs h; first | exact h | (exact h.kept hs (fun _ _ f => f)))
  case FU => exact (Fr.refl none_ w5).drew
  case FH =>
    refine ⟨?_, ?_, ?_, ?_, ?_, ?_, ?_, ?_, ?_, ?_, ?_, ?_, ?_, ?_, ?_, ?_, ?_, ?_, ?_, ?_, ?_, ?_, ?_, ?_, ?_, ?_, ?_, ?_, ?_, ?_, ?_, ?_, ?_, ?_, ?_, ?_, ?_, ?_, ?_, ?_, ?_, ?_, ?_, ?_, ?_, ?_, ?_, ?_, ?_, trivial⟩
    · intro ho aF wF hU hF
      refine flow_at ho rfl (fun _ _ h => by cases h) ⟨#[undef, undef, undef, undef, undef, undef, undef, undef, undef, undef, undef, undef, undef, undef, undef, undef, undef, undef, undef, undef, undef, undef, undef, undef, undef, undef, undef, undef, undef, undef, undef, undef, undef, undef, undef, undef, undef, undef, undef, undef, undef, undef, undef, undef, undef], []⟩ (fun d h => by cases h; exact (by decide : (44 : Nat) < 45)) (by simp only [Op.operands, Call.operands]; simp; try (repeat' (first | rfl | trivial | refine ⟨?_, ?_⟩))) (fun K hK => ?_)
      go_simp
      go_wp2_with (go_at_call 52; refine (told4_any _).mono ?_; rintro e w6 ⟨rfl, hf6⟩)
      exact hK.out _ w6 _ rfl (hU.trans hf6) rfl hf6
    · intro ho aF wF hU hF
      obtain ⟨v0, g0, e44⟩ := hF.at_ 0 (by kernel_rfl) rfl rfl
      change (fun v _ => v = Value.bool true) v0 wF at g0
      replace e44 := e44.trans g0
      refine flow_see ho rfl (fun _ _ h => by cases h) ⟨#[undef, undef, undef, undef, undef, undef, undef, undef, undef, undef, undef, undef, undef, undef, undef, undef, undef, undef, undef, undef, undef, undef, undef, undef, undef, undef, undef, undef, undef, undef, undef, undef, undef, undef, undef, undef, undef, undef, undef, undef, undef, undef, undef, undef, (Value.bool true), undef], []⟩ (by simp only [Op.operands, Call.operands]; simp; try (repeat' (first | rfl | exact e44 | trivial | refine ⟨?_, ?_⟩))) (v := Value.bool true) ?_ hU ?_ (hSr wF)
      · (go_simp <;> with_reducible rfl)
      · exact rfl
    · intro ho aF wF hU hF
      have e6 : aF.eval (.tmp 6) = Value.int .i64 0 := hF.out 6 (by kernel_rfl)
      obtain ⟨v1w, g1w, e1w⟩ := hF.got 1 _ (by kernel_rfl) rfl
      change (fun v _ => v = Value.bool true) v1w wF at g1w
      have ew := e1w 45 rfl
      refine flow_see ho (by simp only [Region.wanted, yielded]; simp [ew, g1w]) (fun _ _ h => by cases h) ⟨#[undef, undef, undef, undef, undef, undef, (Value.int .i64 0), undef, undef, undef, undef, undef, undef, undef, undef, undef, undef, undef, undef, undef, undef, undef, undef, undef, undef, undef, undef, undef, undef, undef, undef, undef, undef, undef, undef, undef, undef, undef, undef, undef, undef, undef, undef, undef, undef, undef, undef], []⟩ (by simp only [Op.operands, Call.operands]; simp; try (repeat' (first | rfl | exact e6 | trivial | refine ⟨?_, ?_⟩))) (v := Value.int .i64 0) ?_ hU ?_ (hSr wF)
      · (go_simp <;> with_reducible rfl)
      · exact rfl
    · intro ho aF wF hU hF
      obtain ⟨v2, g2, e46⟩ := hF.at_ 2 (by kernel_rfl) rfl rfl
      change (fun v _ => v = Value.int .i64 0) v2 wF at g2
      replace e46 := e46.trans g2
      obtain ⟨v1w, g1w, e1w⟩ := hF.got 1 _ (by kernel_rfl) rfl
      change (fun v _ => v = Value.bool true) v1w wF at g1w
      have ew := e1w 45 rfl
      refine flow_see ho (by simp only [Region.wanted, yielded]; simp [ew, g1w]) (fun _ _ h => by cases h) ⟨#[undef, undef, undef, undef, undef, undef, undef, undef, undef, undef, undef, undef, undef, undef, undef, undef, undef, undef, undef, undef, undef, undef, undef, undef, undef, undef, undef, undef, undef, undef, undef, undef, undef, undef, undef, undef, undef, undef, undef, undef, undef, undef, undef, undef, undef, undef, (Value.int .i64 0), undef], []⟩ (by simp only [Op.operands, Call.operands]; simp; try (repeat' (first | rfl | exact e46 | trivial | refine ⟨?_, ?_⟩))) (v := Value.bool true) ?_ hU ?_ (hSr wF)
      · (go_simp <;> with_reducible rfl)
      · exact rfl
    · intro ho aF wF hU hF
      obtain ⟨v1, g1, e45⟩ := hF.at_ 1 (by kernel_rfl) rfl rfl
      change (fun v _ => v = Value.bool true) v1 wF at g1
      replace e45 := e45.trans g1
      obtain ⟨v3, g3, e47⟩ := hF.at_ 3 (by kernel_rfl) rfl rfl
      change (fun v _ => v = Value.bool true) v3 wF at g3
      replace e47 := e47.trans g3
      refine flow_see ho rfl (fun _ _ h => by cases h) ⟨#[undef, undef, undef, undef, undef, undef, undef, undef, undef, undef, undef, undef, undef, undef, undef, undef, undef, undef, undef, undef, undef, undef, undef, undef, undef, undef, undef, undef, undef, undef, undef, undef, undef, undef, undef, undef, undef, undef, undef, undef, undef, undef, undef, undef, undef, (Value.bool true), undef, (Value.bool true), undef], []⟩ (by simp only [Op.operands, Call.operands]; simp; try (repeat' (first | rfl | exact e45 | exact e47 | trivial | refine ⟨?_, ?_⟩))) (v := Value.bool true) ?_ hU ?_ (hSr wF)
      · (go_simp <;> with_reducible rfl)
      · exact rfl
    · intro ho aF wF hU hF
      obtain ⟨v4, g4, e48⟩ := hF.at_ 4 (by kernel_rfl) rfl rfl
      change (fun v _ => v = Value.bool true) v4 wF at g4
      replace e48 := e48.trans g4
      refine flow_see ho rfl (fun _ _ h => by cases h) ⟨#[undef, undef, undef, undef, undef, undef, undef, undef, undef, undef, undef, undef, undef, undef, undef, undef, undef, undef, undef, undef, undef, undef, undef, undef, undef, undef, undef, undef, undef, undef, undef, undef, undef, undef, undef, undef, undef, undef, undef, undef, undef, undef, undef, undef, undef, undef, undef, undef, (Value.bool true), undef], []⟩ (by simp only [Op.operands, Call.operands]; simp; try (repeat' (first | rfl | exact e48 | trivial | refine ⟨?_, ?_⟩))) (v := Value.bool true) ?_ hU ?_ (hSr wF)
      · (go_simp <;> with_reducible rfl)
      · exact rfl
    · intro ho aF wF hU hF
      have e8 : aF.eval (.tmp 8) = Value.int .i64 0 := hF.out 8 (by kernel_rfl)
      obtain ⟨v5w, g5w, e5w⟩ := hF.got 5 _ (by kernel_rfl) rfl
      change (fun v _ => v = Value.bool true) v5w wF at g5w
      have ew := e5w 49 rfl
      refine flow_see ho (by simp only [Region.wanted, yielded]; simp [ew, g5w]) (fun _ _ h => by cases h) ⟨#[undef, undef, undef, undef, undef, undef, undef, undef, (Value.int .i64 0), undef, undef, undef, undef, undef, undef, undef, undef, undef, undef, undef, undef, undef, undef, undef, undef, undef, undef, undef, undef, undef, undef, undef, undef, undef, undef, undef, undef, undef, undef, undef, undef, undef, undef, undef, undef, undef, undef, undef, undef, undef, undef], []⟩ (by simp only [Op.operands, Call.operands]; simp; try (repeat' (first | rfl | exact e8 | trivial | refine ⟨?_, ?_⟩))) (v := Value.int .i64 0) ?_ hU ?_ (hSr wF)
      · (go_simp <;> with_reducible rfl)
      · exact rfl
    · intro ho aF wF hU hF
      obtain ⟨v6, g6, e50⟩ := hF.at_ 6 (by kernel_rfl) rfl rfl
      change (fun v _ => v = Value.int .i64 0) v6 wF at g6
      replace e50 := e50.trans g6
      obtain ⟨v5w, g5w, e5w⟩ := hF.got 5 _ (by kernel_rfl) rfl
      change (fun v _ => v = Value.bool true) v5w wF at g5w
      have ew := e5w 49 rfl
      refine flow_see ho (by simp only [Region.wanted, yielded]; simp [ew, g5w]) (fun _ _ h => by cases h) ⟨#[undef, undef, undef, undef, undef, undef, undef, undef, undef, undef, undef, undef, undef, undef, undef, undef, undef, undef, undef, undef, undef, undef, undef, undef, undef, undef, undef, undef, undef, undef, undef, undef, undef, undef, undef, undef, undef, undef, undef, undef, undef, undef, undef, undef, undef, undef, undef, undef, undef, undef, (Value.int .i64 0), undef], []⟩ (by simp only [Op.operands, Call.operands]; simp; try (repeat' (first | rfl | exact e50 | trivial | refine ⟨?_, ?_⟩))) (v := Value.bool true) ?_ hU ?_ (hSr wF)
      · (go_simp <;> with_reducible rfl)
      · exact rfl
    · intro ho aF wF hU hF
      obtain ⟨v5, g5, e49⟩ := hF.at_ 5 (by kernel_rfl) rfl rfl
      change (fun v _ => v = Value.bool true) v5 wF at g5
      replace e49 := e49.trans g5
      obtain ⟨v7, g7, e51⟩ := hF.at_ 7 (by kernel_rfl) rfl rfl
      change (fun v _ => v = Value.bool true) v7 wF at g7
      replace e51 := e51.trans g7
      refine flow_see ho rfl (fun _ _ h => by cases h) ⟨#[undef, undef, undef, undef, undef, undef, undef, undef, undef, undef, undef, undef, undef, undef, undef, undef, undef, undef, undef, undef, undef, undef, undef, undef, undef, undef, undef, undef, undef, undef, undef, undef, undef, undef, undef, undef, undef, undef, undef, undef, undef, undef, undef, undef, undef, undef, undef, undef, undef, (Value.bool true), undef, (Value.bool true), undef], []⟩ (by simp only [Op.operands, Call.operands]; simp; try (repeat' (first | rfl | exact e49 | exact e51 | trivial | refine ⟨?_, ?_⟩))) (v := Value.bool true) ?_ hU ?_ (hSr wF)
      · (go_simp <;> with_reducible rfl)
      · exact rfl
    · intro ho aF wF hU hF
      obtain ⟨v8, g8, e52⟩ := hF.at_ 8 (by kernel_rfl) rfl rfl
      change (fun v _ => v = Value.bool true) v8 wF at g8
      replace e52 := e52.trans g8
      refine flow_see ho rfl (fun _ _ h => by cases h) ⟨#[undef, undef, undef, undef, undef, undef, undef, undef, undef, undef, undef, undef, undef, undef, undef, undef, undef, undef, undef, undef, undef, undef, undef, undef, undef, undef, undef, undef, undef, undef, undef, undef, undef, undef, undef, undef, undef, undef, undef, undef, undef, undef, undef, undef, undef, undef, undef, undef, undef, undef, undef, undef, (Value.bool true), undef], []⟩ (by simp only [Op.operands, Call.operands]; simp; try (repeat' (first | rfl | exact e52 | trivial | refine ⟨?_, ?_⟩))) (v := Value.bool true) ?_ hU ?_ (hSr wF)
      · (go_simp <;> with_reducible rfl)
      · exact rfl
    · intro ho aF wF hU hF
      have e12 : aF.eval (.tmp 12) = Value.int .i64 0 := hF.out 12 (by kernel_rfl)
      obtain ⟨v9w, g9w, e9w⟩ := hF.got 9 _ (by kernel_rfl) rfl
      change (fun v _ => v = Value.bool true) v9w wF at g9w
      have ew := e9w 53 rfl
      refine flow_see ho (by simp only [Region.wanted, yielded]; simp [ew, g9w]) (fun _ _ h => by cases h) ⟨#[undef, undef, undef, undef, undef, undef, undef, undef, undef, undef, undef, undef, (Value.int .i64 0), undef, undef, undef, undef, undef, undef, undef, undef, undef, undef, undef, undef, undef, undef, undef, undef, undef, undef, undef, undef, undef, undef, undef, undef, undef, undef, undef, undef, undef, undef, undef, undef, undef, undef, undef, undef, undef, undef, undef, undef, undef, undef], []⟩ (by simp only [Op.operands, Call.operands]; simp; try (repeat' (first | rfl | exact e12 | trivial | refine ⟨?_, ?_⟩))) (v := Value.int .i64 0) ?_ hU ?_ (hSr wF)
      · (go_simp <;> with_reducible rfl)
      · exact rfl
    · intro ho aF wF hU hF
      obtain ⟨v10, g10, e54⟩ := hF.at_ 10 (by kernel_rfl) rfl rfl
      change (fun v _ => v = Value.int .i64 0) v10 wF at g10
      replace e54 := e54.trans g10
      obtain ⟨v9w, g9w, e9w⟩ := hF.got 9 _ (by kernel_rfl) rfl
      change (fun v _ => v = Value.bool true) v9w wF at g9w
      have ew := e9w 53 rfl
      refine flow_see ho (by simp only [Region.wanted, yielded]; simp [ew, g9w]) (fun _ _ h => by cases h) ⟨#[undef, undef, undef, undef, undef, undef, undef, undef, undef, undef, undef, undef, undef, undef, undef, undef, undef, undef, undef, undef, undef, undef, undef, undef, undef, undef, undef, undef, undef, undef, undef, undef, undef, undef, undef, undef, undef, undef, undef, undef, undef, undef, undef, undef, undef, undef, undef, undef, undef, undef, undef, undef, undef, undef, (Value.int .i64 0), undef], []⟩ (by simp only [Op.operands, Call.operands]; simp; try (repeat' (first | rfl | exact e54 | trivial | refine ⟨?_, ?_⟩))) (v := Value.bool true) ?_ hU ?_ (hSr wF)
      · (go_simp <;> with_reducible rfl)
      · exact rfl
    · intro ho aF wF hU hF
      obtain ⟨v9, g9, e53⟩ := hF.at_ 9 (by kernel_rfl) rfl rfl
      change (fun v _ => v = Value.bool true) v9 wF at g9
      replace e53 := e53.trans g9
      obtain ⟨v11, g11, e55⟩ := hF.at_ 11 (by kernel_rfl) rfl rfl
      change (fun v _ => v = Value.bool true) v11 wF at g11
      replace e55 := e55.trans g11
      refine flow_see ho rfl (fun _ _ h => by cases h) ⟨#[undef, undef, undef, undef, undef, undef, undef, undef, undef, undef, undef, undef, undef, undef, undef, undef, undef, undef, undef, undef, undef, undef, undef, undef, undef, undef, undef, undef, undef, undef, undef, undef, undef, undef, undef, undef, undef, undef, undef, undef, undef, undef, undef, undef, undef, undef, undef, undef, undef, undef, undef, undef, undef, (Value.bool true), undef, (Value.bool true), undef], []⟩ (by simp only [Op.operands, Call.operands]; simp; try (repeat' (first | rfl | exact e53 | exact e55 | trivial | refine ⟨?_, ?_⟩))) (v := Value.bool true) ?_ hU ?_ (hSr wF)
      · (go_simp <;> with_reducible rfl)
      · exact rfl
    · intro ho aF wF hU hF
      obtain ⟨v12, g12, e56⟩ := hF.at_ 12 (by kernel_rfl) rfl rfl
      change (fun v _ => v = Value.bool true) v12 wF at g12
      replace e56 := e56.trans g12
      refine flow_see ho rfl (fun _ _ h => by cases h) ⟨#[undef, undef, undef, undef, undef, undef, undef, undef, undef, undef, undef, undef, undef, undef, undef, undef, undef, undef, undef, undef, undef, undef, undef, undef, undef, undef, undef, undef, undef, undef, undef, undef, undef, undef, undef, undef, undef, undef, undef, undef, undef, undef, undef, undef, undef, undef, undef, undef, undef, undef, undef, undef, undef, undef, undef, undef, (Value.bool true), undef], []⟩ (by simp only [Op.operands, Call.operands]; simp; try (repeat' (first | rfl | exact e56 | trivial | refine ⟨?_, ?_⟩))) (v := Value.bool true) ?_ hU ?_ (hSr wF)
      · (go_simp <;> with_reducible rfl)
      · exact rfl
    · intro ho aF wF hU hF
      have e5 : aF.eval (.tmp 5) = Value.slice sa 48 sc := hF.out 5 (by kernel_rfl)
      obtain ⟨v13w, g13w, e13w⟩ := hF.got 13 _ (by kernel_rfl) rfl
      change (fun v _ => v = Value.bool true) v13w wF at g13w
      have ew := e13w 57 rfl
      refine flow_see ho (by simp only [Region.wanted, yielded]; simp [ew, g13w]) (fun _ _ h => by cases h) ⟨#[undef, undef, undef, undef, undef, (Value.slice sa 48 sc), undef, undef, undef, undef, undef, undef, undef, undef, undef, undef, undef, undef, undef, undef, undef, undef, undef, undef, undef, undef, undef, undef, undef, undef, undef, undef, undef, undef, undef, undef, undef, undef, undef, undef, undef, undef, undef, undef, undef, undef, undef, undef, undef, undef, undef, undef, undef, undef, undef, undef, undef, undef, undef], []⟩ (by simp only [Op.operands, Call.operands]; simp; try (repeat' (first | rfl | exact e5 | trivial | refine ⟨?_, ?_⟩))) (v := Value.slice sa 48 sc) ?_ hU ?_ (hSr wF)
      · (go_simp <;> with_reducible rfl)
      · exact rfl
    · intro ho aF wF hU hF
      obtain ⟨v14, g14, e58⟩ := hF.at_ 14 (by kernel_rfl) rfl rfl
      change (fun v _ => v = Value.slice sa 48 sc) v14 wF at g14
      replace e58 := e58.trans g14
      obtain ⟨v13w, g13w, e13w⟩ := hF.got 13 _ (by kernel_rfl) rfl
      change (fun v _ => v = Value.bool true) v13w wF at g13w
      have ew := e13w 57 rfl
      refine flow_see ho (by simp only [Region.wanted, yielded]; simp [ew, g13w]) (fun _ _ h => by cases h) ⟨#[undef, undef, undef, undef, undef, undef, undef, undef, undef, undef, undef, undef, undef, undef, undef, undef, undef, undef, undef, undef, undef, undef, undef, undef, undef, undef, undef, undef, undef, undef, undef, undef, undef, undef, undef, undef, undef, undef, undef, undef, undef, undef, undef, undef, undef, undef, undef, undef, undef, undef, undef, undef, undef, undef, undef, undef, undef, undef, (Value.slice sa 48 sc), undef], []⟩ (by simp only [Op.operands, Call.operands]; simp; try (repeat' (first | rfl | exact e58 | trivial | refine ⟨?_, ?_⟩))) (v := Value.int .i64 48) ?_ hU ?_ (hSr wF)
      · (go_simp)
      · exact rfl
    · intro ho aF wF hU hF
      obtain ⟨v15, g15, e59⟩ := hF.at_ 15 (by kernel_rfl) rfl rfl
      change (fun v _ => v = Value.int .i64 48) v15 wF at g15
      replace e59 := e59.trans g15
      obtain ⟨v13w, g13w, e13w⟩ := hF.got 13 _ (by kernel_rfl) rfl
      change (fun v _ => v = Value.bool true) v13w wF at g13w
      have ew := e13w 57 rfl
      refine flow_see ho (by simp only [Region.wanted, yielded]; simp [ew, g13w]) (fun _ _ h => by cases h) ⟨#[undef, undef, undef, undef, undef, undef, undef, undef, undef, undef, undef, undef, undef, undef, undef, undef, undef, undef, undef, undef, undef, undef, undef, undef, undef, undef, undef, undef, undef, undef, undef, undef, undef, undef, undef, undef, undef, undef, undef, undef, undef, undef, undef, undef, undef, undef, undef, undef, undef, undef, undef, undef, undef, undef, undef, undef, undef, undef, undef, (Value.int .i64 48), undef], []⟩ (by simp only [Op.operands, Call.operands]; simp; try (repeat' (first | rfl | exact e59 | trivial | refine ⟨?_, ?_⟩))) (v := Value.bool true) ?_ hU ?_ (hSr wF)
      · (go_simp <;> with_reducible rfl)
      · exact rfl
    · intro ho aF wF hU hF
      obtain ⟨v13, g13, e57⟩ := hF.at_ 13 (by kernel_rfl) rfl rfl
      change (fun v _ => v = Value.bool true) v13 wF at g13
      replace e57 := e57.trans g13
      obtain ⟨v16, g16, e60⟩ := hF.at_ 16 (by kernel_rfl) rfl rfl
      change (fun v _ => v = Value.bool true) v16 wF at g16
      replace e60 := e60.trans g16
      refine flow_see ho rfl (fun _ _ h => by cases h) ⟨#[undef, undef, undef, undef, undef, undef, undef, undef, undef, undef, undef, undef, undef, undef, undef, undef, undef, undef, undef, undef, undef, undef, undef, undef, undef, undef, undef, undef, undef, undef, undef, undef, undef, undef, undef, undef, undef, undef, undef, undef, undef, undef, undef, undef, undef, undef, undef, undef, undef, undef, undef, undef, undef, undef, undef, undef, undef, (Value.bool true), undef, undef, (Value.bool true), undef], []⟩ (by simp only [Op.operands, Call.operands]; simp; try (repeat' (first | rfl | exact e57 | exact e60 | trivial | refine ⟨?_, ?_⟩))) (v := Value.bool true) ?_ hU ?_ (hSr wF)
      · (go_simp <;> with_reducible rfl)
      · exact rfl
    · intro ho aF wF hU hF
      obtain ⟨v17, g17, e61⟩ := hF.at_ 17 (by kernel_rfl) rfl rfl
      change (fun v _ => v = Value.bool true) v17 wF at g17
      replace e61 := e61.trans g17
      refine flow_see ho rfl (fun _ _ h => by cases h) ⟨#[undef, undef, undef, undef, undef, undef, undef, undef, undef, undef, undef, undef, undef, undef, undef, undef, undef, undef, undef, undef, undef, undef, undef, undef, undef, undef, undef, undef, undef, undef, undef, undef, undef, undef, undef, undef, undef, undef, undef, undef, undef, undef, undef, undef, undef, undef, undef, undef, undef, undef, undef, undef, undef, undef, undef, undef, undef, undef, undef, undef, undef, (Value.bool true), undef], []⟩ (by simp only [Op.operands, Call.operands]; simp; try (repeat' (first | rfl | exact e61 | trivial | refine ⟨?_, ?_⟩))) (v := Value.bool true) ?_ hU ?_ (hSr wF)
      · (go_simp <;> with_reducible rfl)
      · exact rfl
    · intro ho aF wF hU hF
      have e9 : aF.eval (.tmp 9) = Value.pointer (some ⟨bx, 0, none⟩) := hF.out 9 (by kernel_rfl)
      obtain ⟨v18w, g18w, e18w⟩ := hF.got 18 _ (by kernel_rfl) rfl
      change (fun v _ => v = Value.bool true) v18w wF at g18w
      have ew := e18w 62 rfl
      refine flow_see ho (by simp only [Region.wanted, yielded]; simp [ew, g18w]) (fun _ _ h => by cases h) ⟨#[undef, undef, undef, undef, undef, undef, undef, undef, undef, (Value.pointer (some ⟨bx, 0, none⟩)), undef, undef, undef, undef, undef, undef, undef, undef, undef, undef, undef, undef, undef, undef, undef, undef, undef, undef, undef, undef, undef, undef, undef, undef, undef, undef, undef, undef, undef, undef, undef, undef, undef, undef, undef, undef, undef, undef, undef, undef, undef, undef, undef, undef, undef, undef, undef, undef, undef, undef, undef, undef, undef, undef], []⟩ (by simp only [Op.operands, Call.operands]; simp; try (repeat' (first | rfl | exact e9 | trivial | refine ⟨?_, ?_⟩))) (v := Value.agg #[.int .i64 m.kind, .int .i64 m.who, .int .i64 m.gen, .int .i64 m.seq, .int .i64 m.epoch, .int .i64 m.value, .int .i64 m.metric]) ?_ hU ?_ (hSr wF)
      · (obtain ⟨⟨a0, a1, a2, a3, a4, a5, a6⟩, ⟨k0, k1⟩, ⟨x0, x1, x2, x3, x4, x5, x6⟩, ⟨t0, t1⟩⟩ := HK4 wF hU; go_simp)
      · exact rfl
    · intro ho aF wF hU hF
      have e2 : aF.eval (.tmp 2) = Value.pointer (some ⟨w.heap.size, 0, none⟩) := hF.out 2 (by kernel_rfl)
      obtain ⟨v18w, g18w, e18w⟩ := hF.got 18 _ (by kernel_rfl) rfl
      change (fun v _ => v = Value.bool true) v18w wF at g18w
      have ew := e18w 62 rfl
      refine flow_see ho (by simp only [Region.wanted, yielded]; simp [ew, g18w]) (fun _ _ h => by cases h) ⟨#[undef, undef, (Value.pointer (some ⟨w.heap.size, 0, none⟩)), undef, undef, undef, undef, undef, undef, undef, undef, undef, undef, undef, undef, undef, undef, undef, undef, undef, undef, undef, undef, undef, undef, undef, undef, undef, undef, undef, undef, undef, undef, undef, undef, undef, undef, undef, undef, undef, undef, undef, undef, undef, undef, undef, undef, undef, undef, undef, undef, undef, undef, undef, undef, undef, undef, undef, undef, undef, undef, undef, undef, undef, undef], []⟩ (by simp only [Op.operands, Call.operands]; simp; try (repeat' (first | rfl | exact e2 | trivial | refine ⟨?_, ?_⟩))) (v := Value.agg #[.int .i64 m.kind, .int .i64 m.who, .int .i64 m.gen, .int .i64 m.seq, .int .i64 m.epoch, .int .i64 m.value, .int .i64 m.metric]) ?_ hU ?_ (hSr wF)
      · (obtain ⟨⟨a0, a1, a2, a3, a4, a5, a6⟩, ⟨k0, k1⟩, ⟨x0, x1, x2, x3, x4, x5, x6⟩, ⟨t0, t1⟩⟩ := HK4 wF hU; go_simp)
      · exact rfl
    · intro ho aF wF hU hF
      obtain ⟨v19, g19, e63⟩ := hF.at_ 19 (by kernel_rfl) rfl rfl
      change (fun v _ => v = Value.agg #[.int .i64 m.kind, .int .i64 m.who, .int .i64 m.gen, .int .i64 m.seq, .int .i64 m.epoch, .int .i64 m.value, .int .i64 m.metric]) v19 wF at g19
      replace e63 := e63.trans g19
      obtain ⟨v20, g20, e64⟩ := hF.at_ 20 (by kernel_rfl) rfl rfl
      change (fun v _ => v = Value.agg #[.int .i64 m.kind, .int .i64 m.who, .int .i64 m.gen, .int .i64 m.seq, .int .i64 m.epoch, .int .i64 m.value, .int .i64 m.metric]) v20 wF at g20
      replace e64 := e64.trans g20
      obtain ⟨v18w, g18w, e18w⟩ := hF.got 18 _ (by kernel_rfl) rfl
      change (fun v _ => v = Value.bool true) v18w wF at g18w
      have ew := e18w 62 rfl
      refine flow_see ho (by simp only [Region.wanted, yielded]; simp [ew, g18w]) (fun _ _ h => by cases h) ⟨#[undef, undef, undef, undef, undef, undef, undef, undef, undef, undef, undef, undef, undef, undef, undef, undef, undef, undef, undef, undef, undef, undef, undef, undef, undef, undef, undef, undef, undef, undef, undef, undef, undef, undef, undef, undef, undef, undef, undef, undef, undef, undef, undef, undef, undef, undef, undef, undef, undef, undef, undef, undef, undef, undef, undef, undef, undef, undef, undef, undef, undef, undef, undef, (Value.agg #[.int .i64 m.kind, .int .i64 m.who, .int .i64 m.gen, .int .i64 m.seq, .int .i64 m.epoch, .int .i64 m.value, .int .i64 m.metric]), (Value.agg #[.int .i64 m.kind, .int .i64 m.who, .int .i64 m.gen, .int .i64 m.seq, .int .i64 m.epoch, .int .i64 m.value, .int .i64 m.metric]), undef], []⟩ (by simp only [Op.operands, Call.operands]; simp; try (repeat' (first | rfl | exact e63 | exact e64 | trivial | refine ⟨?_, ?_⟩))) (v := Value.bool true) ?_ hU ?_ (hSr wF)
      · (go_simp <;> with_reducible rfl)
      · exact rfl
    · intro ho aF wF hU hF
      obtain ⟨v18, g18, e62⟩ := hF.at_ 18 (by kernel_rfl) rfl rfl
      change (fun v _ => v = Value.bool true) v18 wF at g18
      replace e62 := e62.trans g18
      obtain ⟨v21, g21, e65⟩ := hF.at_ 21 (by kernel_rfl) rfl rfl
      change (fun v _ => v = Value.bool true) v21 wF at g21
      replace e65 := e65.trans g21
      refine flow_see ho rfl (fun _ _ h => by cases h) ⟨#[undef, undef, undef, undef, undef, undef, undef, undef, undef, undef, undef, undef, undef, undef, undef, undef, undef, undef, undef, undef, undef, undef, undef, undef, undef, undef, undef, undef, undef, undef, undef, undef, undef, undef, undef, undef, undef, undef, undef, undef, undef, undef, undef, undef, undef, undef, undef, undef, undef, undef, undef, undef, undef, undef, undef, undef, undef, undef, undef, undef, undef, undef, (Value.bool true), undef, undef, (Value.bool true), undef], []⟩ (by simp only [Op.operands, Call.operands]; simp; try (repeat' (first | rfl | exact e62 | exact e65 | trivial | refine ⟨?_, ?_⟩))) (v := Value.bool true) ?_ hU ?_ (hSr wF)
      · (go_simp <;> with_reducible rfl)
      · exact rfl
    · intro ho aF wF hU hF
      obtain ⟨v22, g22, e66⟩ := hF.at_ 22 (by kernel_rfl) rfl rfl
      change (fun v _ => v = Value.bool true) v22 wF at g22
      replace e66 := e66.trans g22
      refine flow_see ho rfl (fun _ _ h => by cases h) ⟨#[undef, undef, undef, undef, undef, undef, undef, undef, undef, undef, undef, undef, undef, undef, undef, undef, undef, undef, undef, undef, undef, undef, undef, undef, undef, undef, undef, undef, undef, undef, undef, undef, undef, undef, undef, undef, undef, undef, undef, undef, undef, undef, undef, undef, undef, undef, undef, undef, undef, undef, undef, undef, undef, undef, undef, undef, undef, undef, undef, undef, undef, undef, undef, undef, undef, undef, (Value.bool true), undef], []⟩ (by simp only [Op.operands, Call.operands]; simp; try (repeat' (first | rfl | exact e66 | trivial | refine ⟨?_, ?_⟩))) (v := Value.bool true) ?_ hU ?_ (hSr wF)
      · (go_simp <;> with_reducible rfl)
      · exact rfl
    · intro ho aF wF hU hF
      have e10 : aF.eval (.tmp 10) = Value.slice ya 32 yc := hF.out 10 (by kernel_rfl)
      obtain ⟨v23w, g23w, e23w⟩ := hF.got 23 _ (by kernel_rfl) rfl
      change (fun v _ => v = Value.bool true) v23w wF at g23w
      have ew := e23w 67 rfl
      refine flow_see ho (by simp only [Region.wanted, yielded]; simp [ew, g23w]) (fun _ _ h => by cases h) ⟨#[undef, undef, undef, undef, undef, undef, undef, undef, undef, undef, (Value.slice ya 32 yc), undef, undef, undef, undef, undef, undef, undef, undef, undef, undef, undef, undef, undef, undef, undef, undef, undef, undef, undef, undef, undef, undef, undef, undef, undef, undef, undef, undef, undef, undef, undef, undef, undef, undef, undef, undef, undef, undef, undef, undef, undef, undef, undef, undef, undef, undef, undef, undef, undef, undef, undef, undef, undef, undef, undef, undef, undef, undef], []⟩ (by simp only [Op.operands, Call.operands]; simp; try (repeat' (first | rfl | exact e10 | trivial | refine ⟨?_, ?_⟩))) (v := Value.slice ya 32 yc) ?_ hU ?_ (hSr wF)
      · (go_simp <;> with_reducible rfl)
      · exact rfl
    · intro ho aF wF hU hF
      obtain ⟨v24, g24, e68⟩ := hF.at_ 24 (by kernel_rfl) rfl rfl
      change (fun v _ => v = Value.slice ya 32 yc) v24 wF at g24
      replace e68 := e68.trans g24
      obtain ⟨v23w, g23w, e23w⟩ := hF.got 23 _ (by kernel_rfl) rfl
      change (fun v _ => v = Value.bool true) v23w wF at g23w
      have ew := e23w 67 rfl
      refine flow_at ho (by simp only [Region.wanted, yielded]; simp [ew, g23w]) (fun _ _ h => by cases h) ⟨#[undef, undef, undef, undef, undef, undef, undef, undef, undef, undef, undef, undef, undef, undef, undef, undef, undef, undef, undef, undef, undef, undef, undef, undef, undef, undef, undef, undef, undef, undef, undef, undef, undef, undef, undef, undef, undef, undef, undef, undef, undef, undef, undef, undef, undef, undef, undef, undef, undef, undef, undef, undef, undef, undef, undef, undef, undef, undef, undef, undef, undef, undef, undef, undef, undef, undef, undef, undef, (Value.slice ya 32 yc), undef], []⟩ (fun d h => by cases h; exact (by decide : (69 : Nat) < 70)) (by simp only [Op.operands, Call.operands]; simp; try (repeat' (first | rfl | exact e68 | trivial | refine ⟨?_, ?_⟩))) (fun K hK => ?_)
      refine wp_str _ _ 25 9 5 rfl Try.underlying25 Try.underlying5 Try.underlying9 (.slice ya 32 yc) pm rfl (HRy.out.kept hU (fun _ _ _ _ f => f)) ?_
      exact hK.out _ _ _ rfl hU rfl (hSr _)
    · intro ho aF wF hU hF
      have e7 : aF.eval (.tmp 7) = Value.slice pa 32 pc := hF.out 7 (by kernel_rfl)
      obtain ⟨v23w, g23w, e23w⟩ := hF.got 23 _ (by kernel_rfl) rfl
      change (fun v _ => v = Value.bool true) v23w wF at g23w
      have ew := e23w 67 rfl
      refine flow_see ho (by simp only [Region.wanted, yielded]; simp [ew, g23w]) (fun _ _ h => by cases h) ⟨#[undef, undef, undef, undef, undef, undef, undef, (Value.slice pa 32 pc), undef, undef, undef, undef, undef, undef, undef, undef, undef, undef, undef, undef, undef, undef, undef, undef, undef, undef, undef, undef, undef, undef, undef, undef, undef, undef, undef, undef, undef, undef, undef, undef, undef, undef, undef, undef, undef, undef, undef, undef, undef, undef, undef, undef, undef, undef, undef, undef, undef, undef, undef, undef, undef, undef, undef, undef, undef, undef, undef, undef, undef, undef, undef], []⟩ (by simp only [Op.operands, Call.operands]; simp; try (repeat' (first | rfl | exact e7 | trivial | refine ⟨?_, ?_⟩))) (v := Value.slice pa 32 pc) ?_ hU ?_ (hSr wF)
      · (go_simp <;> with_reducible rfl)
      · exact rfl
    · intro ho aF wF hU hF
      obtain ⟨v26, g26, e70⟩ := hF.at_ 26 (by kernel_rfl) rfl rfl
      change (fun v _ => v = Value.slice pa 32 pc) v26 wF at g26
      replace e70 := e70.trans g26
      obtain ⟨v23w, g23w, e23w⟩ := hF.got 23 _ (by kernel_rfl) rfl
      change (fun v _ => v = Value.bool true) v23w wF at g23w
      have ew := e23w 67 rfl
      refine flow_at ho (by simp only [Region.wanted, yielded]; simp [ew, g23w]) (fun _ _ h => by cases h) ⟨#[undef, undef, undef, undef, undef, undef, undef, undef, undef, undef, undef, undef, undef, undef, undef, undef, undef, undef, undef, undef, undef, undef, undef, undef, undef, undef, undef, undef, undef, undef, undef, undef, undef, undef, undef, undef, undef, undef, undef, undef, undef, undef, undef, undef, undef, undef, undef, undef, undef, undef, undef, undef, undef, undef, undef, undef, undef, undef, undef, undef, undef, undef, undef, undef, undef, undef, undef, undef, undef, undef, (Value.slice pa 32 pc), undef], []⟩ (fun d h => by cases h; exact (by decide : (71 : Nat) < 72)) (by simp only [Op.operands, Call.operands]; simp; try (repeat' (first | rfl | exact e70 | trivial | refine ⟨?_, ?_⟩))) (fun K hK => ?_)
      refine wp_str _ _ 25 9 5 rfl Try.underlying25 Try.underlying5 Try.underlying9 (.slice pa 32 pc) pm rfl (HRp.out.kept hU (fun _ _ _ _ f => f)) ?_
      exact hK.out _ _ _ rfl hU rfl (hSr _)
    · intro ho aF wF hU hF
      obtain ⟨v25, g25, e69⟩ := hF.at_ 25 (by kernel_rfl) rfl rfl
      change (fun v _ => v = Value.string (bs pm)) v25 wF at g25
      replace e69 := e69.trans g25
      obtain ⟨v27, g27, e71⟩ := hF.at_ 27 (by kernel_rfl) rfl rfl
      change (fun v _ => v = Value.string (bs pm)) v27 wF at g27
      replace e71 := e71.trans g27
      obtain ⟨v23w, g23w, e23w⟩ := hF.got 23 _ (by kernel_rfl) rfl
      change (fun v _ => v = Value.bool true) v23w wF at g23w
      have ew := e23w 67 rfl
      refine flow_see ho (by simp only [Region.wanted, yielded]; simp [ew, g23w]) (fun _ _ h => by cases h) ⟨#[undef, undef, undef, undef, undef, undef, undef, undef, undef, undef, undef, undef, undef, undef, undef, undef, undef, undef, undef, undef, undef, undef, undef, undef, undef, undef, undef, undef, undef, undef, undef, undef, undef, undef, undef, undef, undef, undef, undef, undef, undef, undef, undef, undef, undef, undef, undef, undef, undef, undef, undef, undef, undef, undef, undef, undef, undef, undef, undef, undef, undef, undef, undef, undef, undef, undef, undef, undef, undef, (Value.string (bs pm)), undef, (Value.string (bs pm)), undef], []⟩ (by simp only [Op.operands, Call.operands]; simp; try (repeat' (first | rfl | exact e69 | exact e71 | trivial | refine ⟨?_, ?_⟩))) (v := Value.bool true) ?_ hU ?_ (hSr wF)
      · (go_simp <;> with_reducible rfl)
      · exact rfl
    · intro ho aF wF hU hF
      obtain ⟨v23, g23, e67⟩ := hF.at_ 23 (by kernel_rfl) rfl rfl
      change (fun v _ => v = Value.bool true) v23 wF at g23
      replace e67 := e67.trans g23
      obtain ⟨v28, g28, e72⟩ := hF.at_ 28 (by kernel_rfl) rfl rfl
      change (fun v _ => v = Value.bool true) v28 wF at g28
      replace e72 := e72.trans g28
      refine flow_see ho rfl (fun _ _ h => by cases h) ⟨#[undef, undef, undef, undef, undef, undef, undef, undef, undef, undef, undef, undef, undef, undef, undef, undef, undef, undef, undef, undef, undef, undef, undef, undef, undef, undef, undef, undef, undef, undef, undef, undef, undef, undef, undef, undef, undef, undef, undef, undef, undef, undef, undef, undef, undef, undef, undef, undef, undef, undef, undef, undef, undef, undef, undef, undef, undef, undef, undef, undef, undef, undef, undef, undef, undef, undef, undef, (Value.bool true), undef, undef, undef, undef, (Value.bool true), undef], []⟩ (by simp only [Op.operands, Call.operands]; simp; try (repeat' (first | rfl | exact e67 | exact e72 | trivial | refine ⟨?_, ?_⟩))) (v := Value.bool true) ?_ hU ?_ (hSr wF)
      · (go_simp <;> with_reducible rfl)
      · exact rfl
    · intro ho aF wF hU hF
      obtain ⟨v29, g29, e73⟩ := hF.at_ 29 (by kernel_rfl) rfl rfl
      change (fun v _ => v = Value.bool true) v29 wF at g29
      replace e73 := e73.trans g29
      refine flow_see ho rfl (fun _ _ h => by cases h) ⟨#[undef, undef, undef, undef, undef, undef, undef, undef, undef, undef, undef, undef, undef, undef, undef, undef, undef, undef, undef, undef, undef, undef, undef, undef, undef, undef, undef, undef, undef, undef, undef, undef, undef, undef, undef, undef, undef, undef, undef, undef, undef, undef, undef, undef, undef, undef, undef, undef, undef, undef, undef, undef, undef, undef, undef, undef, undef, undef, undef, undef, undef, undef, undef, undef, undef, undef, undef, undef, undef, undef, undef, undef, undef, (Value.bool true), undef], []⟩ (by simp only [Op.operands, Call.operands]; simp; try (repeat' (first | rfl | exact e73 | trivial | refine ⟨?_, ?_⟩))) (v := Value.bool true) ?_ hU ?_ (hSr wF)
      · (go_simp <;> with_reducible rfl)
      · exact rfl
    · intro ho aF wF hU hF
      have e11 : aF.eval (.tmp 11) = Value.pointer (some ⟨bt, 0, none⟩) := hF.out 11 (by kernel_rfl)
      obtain ⟨v30w, g30w, e30w⟩ := hF.got 30 _ (by kernel_rfl) rfl
      change (fun v _ => v = Value.bool true) v30w wF at g30w
      have ew := e30w 74 rfl
      refine flow_see ho (by simp only [Region.wanted, yielded]; simp [ew, g30w]) (fun _ _ h => by cases h) ⟨#[undef, undef, undef, undef, undef, undef, undef, undef, undef, undef, undef, (Value.pointer (some ⟨bt, 0, none⟩)), undef, undef, undef, undef, undef, undef, undef, undef, undef, undef, undef, undef, undef, undef, undef, undef, undef, undef, undef, undef, undef, undef, undef, undef, undef, undef, undef, undef, undef, undef, undef, undef, undef, undef, undef, undef, undef, undef, undef, undef, undef, undef, undef, undef, undef, undef, undef, undef, undef, undef, undef, undef, undef, undef, undef, undef, undef, undef, undef, undef, undef, undef, undef, undef], []⟩ (by simp only [Op.operands, Call.operands]; simp; try (repeat' (first | rfl | exact e11 | trivial | refine ⟨?_, ?_⟩))) (v := Value.agg #[.int .u64 (u t.1), .int .u64 (u t.2)]) ?_ hU ?_ (hSr wF)
      · (obtain ⟨⟨a0, a1, a2, a3, a4, a5, a6⟩, ⟨k0, k1⟩, ⟨x0, x1, x2, x3, x4, x5, x6⟩, ⟨t0, t1⟩⟩ := HK4 wF hU; go_simp)
      · exact rfl
    · intro ho aF wF hU hF
      have e3 : aF.eval (.tmp 3) = Value.pointer (some ⟨w.heap.size + 1, 0, none⟩) := hF.out 3 (by kernel_rfl)
      obtain ⟨v30w, g30w, e30w⟩ := hF.got 30 _ (by kernel_rfl) rfl
      change (fun v _ => v = Value.bool true) v30w wF at g30w
      have ew := e30w 74 rfl
      refine flow_see ho (by simp only [Region.wanted, yielded]; simp [ew, g30w]) (fun _ _ h => by cases h) ⟨#[undef, undef, undef, (Value.pointer (some ⟨w.heap.size + 1, 0, none⟩)), undef, undef, undef, undef, undef, undef, undef, undef, undef, undef, undef, undef, undef, undef, undef, undef, undef, undef, undef, undef, undef, undef, undef, undef, undef, undef, undef, undef, undef, undef, undef, undef, undef, undef, undef, undef, undef, undef, undef, undef, undef, undef, undef, undef, undef, undef, undef, undef, undef, undef, undef, undef, undef, undef, undef, undef, undef, undef, undef, undef, undef, undef, undef, undef, undef, undef, undef, undef, undef, undef, undef, undef, undef], []⟩ (by simp only [Op.operands, Call.operands]; simp; try (repeat' (first | rfl | exact e3 | trivial | refine ⟨?_, ?_⟩))) (v := Value.agg #[.int .u64 (u k.1), .int .u64 (u k.2)]) ?_ hU ?_ (hSr wF)
      · (obtain ⟨⟨a0, a1, a2, a3, a4, a5, a6⟩, ⟨k0, k1⟩, ⟨x0, x1, x2, x3, x4, x5, x6⟩, ⟨t0, t1⟩⟩ := HK4 wF hU; go_simp)
      · exact rfl
    · intro ho aF wF hU hF
      have e7 : aF.eval (.tmp 7) = Value.slice pa 32 pc := hF.out 7 (by kernel_rfl)
      obtain ⟨v30w, g30w, e30w⟩ := hF.got 30 _ (by kernel_rfl) rfl
      change (fun v _ => v = Value.bool true) v30w wF at g30w
      have ew := e30w 74 rfl
      refine flow_see ho (by simp only [Region.wanted, yielded]; simp [ew, g30w]) (fun _ _ h => by cases h) ⟨#[undef, undef, undef, undef, undef, undef, undef, (Value.slice pa 32 pc), undef, undef, undef, undef, undef, undef, undef, undef, undef, undef, undef, undef, undef, undef, undef, undef, undef, undef, undef, undef, undef, undef, undef, undef, undef, undef, undef, undef, undef, undef, undef, undef, undef, undef, undef, undef, undef, undef, undef, undef, undef, undef, undef, undef, undef, undef, undef, undef, undef, undef, undef, undef, undef, undef, undef, undef, undef, undef, undef, undef, undef, undef, undef, undef, undef, undef, undef, undef, undef, undef], []⟩ (by simp only [Op.operands, Call.operands]; simp; try (repeat' (first | rfl | exact e7 | trivial | refine ⟨?_, ?_⟩))) (v := Value.slice pa 32 pc) ?_ hU ?_ (hSr wF)
      · (go_simp <;> with_reducible rfl)
      · exact rfl
    · intro ho aF wF hU hF
      obtain ⟨v32, g32, e76⟩ := hF.at_ 32 (by kernel_rfl) rfl rfl
      change (fun v _ => v = Value.agg #[.int .u64 (u k.1), .int .u64 (u k.2)]) v32 wF at g32
      replace e76 := e76.trans g32
      obtain ⟨v33, g33, e77⟩ := hF.at_ 33 (by kernel_rfl) rfl rfl
      change (fun v _ => v = Value.slice pa 32 pc) v33 wF at g33
      replace e77 := e77.trans g33
      obtain ⟨v30w, g30w, e30w⟩ := hF.got 30 _ (by kernel_rfl) rfl
      change (fun v _ => v = Value.bool true) v30w wF at g30w
      have ew := e30w 74 rfl
      refine flow_at ho (by simp only [Region.wanted, yielded]; simp [ew, g30w]) (fun _ _ h => by cases h) ⟨#[undef, undef, undef, undef, undef, undef, undef, undef, undef, undef, undef, undef, undef, undef, undef, undef, undef, undef, undef, undef, undef, undef, undef, undef, undef, undef, undef, undef, undef, undef, undef, undef, undef, undef, undef, undef, undef, undef, undef, undef, undef, undef, undef, undef, undef, undef, undef, undef, undef, undef, undef, undef, undef, undef, undef, undef, undef, undef, undef, undef, undef, undef, undef, undef, undef, undef, undef, undef, undef, undef, undef, undef, undef, undef, undef, undef, (Value.agg #[.int .u64 (u k.1), .int .u64 (u k.2)]), (Value.slice pa 32 pc), undef], []⟩ (fun d h => by cases h; exact (by decide : (78 : Nat) < 79)) (by simp only [Op.operands, Call.operands]; simp; try (repeat' (first | rfl | exact e76 | exact e77 | trivial | refine ⟨?_, ?_⟩))) (fun K hK => ?_)
      go_simp
      go_wp2_with (go_at_call 42; refine (HT _ _ (HRp.out.kept hU (fun _ _ _ _ f => f))).mono ?_; rintro e w6 ⟨rfl, hf6⟩)
      exact hK.out _ w6 _ rfl (hU.trans hf6) rfl hf6
    · intro ho aF wF hU hF
      obtain ⟨v31, g31, e75⟩ := hF.at_ 31 (by kernel_rfl) rfl rfl
      change (fun v _ => v = Value.agg #[.int .u64 (u t.1), .int .u64 (u t.2)]) v31 wF at g31
      replace e75 := e75.trans g31
      obtain ⟨v34, g34, e78⟩ := hF.at_ 34 (by kernel_rfl) rfl rfl
      change (fun v _ => v = Value.agg #[.int .u64 (u t.1), .int .u64 (u t.2)]) v34 wF at g34
      replace e78 := e78.trans g34
      obtain ⟨v30w, g30w, e30w⟩ := hF.got 30 _ (by kernel_rfl) rfl
      change (fun v _ => v = Value.bool true) v30w wF at g30w
      have ew := e30w 74 rfl
      refine flow_at ho (by simp only [Region.wanted, yielded]; simp [ew, g30w]) (fun _ _ h => by cases h) ⟨#[undef, undef, undef, undef, undef, undef, undef, undef, undef, undef, undef, undef, undef, undef, undef, undef, undef, undef, undef, undef, undef, undef, undef, undef, undef, undef, undef, undef, undef, undef, undef, undef, undef, undef, undef, undef, undef, undef, undef, undef, undef, undef, undef, undef, undef, undef, undef, undef, undef, undef, undef, undef, undef, undef, undef, undef, undef, undef, undef, undef, undef, undef, undef, undef, undef, undef, undef, undef, undef, undef, undef, undef, undef, undef, undef, (Value.agg #[.int .u64 (u t.1), .int .u64 (u t.2)]), undef, undef, (Value.agg #[.int .u64 (u t.1), .int .u64 (u t.2)]), undef], []⟩ (fun d h => by cases h; exact (by decide : (79 : Nat) < 80)) (by simp only [Op.operands, Call.operands]; simp; try (repeat' (first | rfl | exact e75 | exact e78 | trivial | refine ⟨?_, ?_⟩))) (fun K hK => ?_)
      go_simp
      go_wp2_with (go_at_call 41; refine (HSt _).mono ?_; rintro e w6 ⟨rfl, hf6⟩)
      exact hK.out _ w6 _ rfl (hU.trans hf6) rfl hf6
    · intro ho aF wF hU hF
      obtain ⟨v30, g30, e74⟩ := hF.at_ 30 (by kernel_rfl) rfl rfl
      change (fun v _ => v = Value.bool true) v30 wF at g30
      replace e74 := e74.trans g30
      obtain ⟨v35, g35, e79⟩ := hF.at_ 35 (by kernel_rfl) rfl rfl
      change (fun v _ => v = Value.bool true) v35 wF at g35
      replace e79 := e79.trans g35
      refine flow_see ho rfl (fun _ _ h => by cases h) ⟨#[undef, undef, undef, undef, undef, undef, undef, undef, undef, undef, undef, undef, undef, undef, undef, undef, undef, undef, undef, undef, undef, undef, undef, undef, undef, undef, undef, undef, undef, undef, undef, undef, undef, undef, undef, undef, undef, undef, undef, undef, undef, undef, undef, undef, undef, undef, undef, undef, undef, undef, undef, undef, undef, undef, undef, undef, undef, undef, undef, undef, undef, undef, undef, undef, undef, undef, undef, undef, undef, undef, undef, undef, undef, undef, (Value.bool true), undef, undef, undef, undef, (Value.bool true), undef], []⟩ (by simp only [Op.operands, Call.operands]; simp; try (repeat' (first | rfl | exact e74 | exact e79 | trivial | refine ⟨?_, ?_⟩))) (v := Value.bool true) ?_ hU ?_ (hSr wF)
      · (go_simp <;> with_reducible rfl)
      · exact rfl
    · intro ho aF wF hU hF
      obtain ⟨v36, g36, e80⟩ := hF.at_ 36 (by kernel_rfl) rfl rfl
      change (fun v _ => v = Value.bool true) v36 wF at g36
      replace e80 := e80.trans g36
      refine flow_see ho rfl (fun _ _ h => by cases h) ⟨#[undef, undef, undef, undef, undef, undef, undef, undef, undef, undef, undef, undef, undef, undef, undef, undef, undef, undef, undef, undef, undef, undef, undef, undef, undef, undef, undef, undef, undef, undef, undef, undef, undef, undef, undef, undef, undef, undef, undef, undef, undef, undef, undef, undef, undef, undef, undef, undef, undef, undef, undef, undef, undef, undef, undef, undef, undef, undef, undef, undef, undef, undef, undef, undef, undef, undef, undef, undef, undef, undef, undef, undef, undef, undef, undef, undef, undef, undef, undef, undef, (Value.bool true), undef], []⟩ (by simp only [Op.operands, Call.operands]; simp; try (repeat' (first | rfl | exact e80 | trivial | refine ⟨?_, ?_⟩))) (v := Value.bool true) ?_ hU ?_ (hSr wF)
      · (go_simp <;> with_reducible rfl)
      · exact rfl
    · intro ho aF wF hU hF
      have e5 : aF.eval (.tmp 5) = Value.slice sa 48 sc := hF.out 5 (by kernel_rfl)
      obtain ⟨v37w, g37w, e37w⟩ := hF.got 37 _ (by kernel_rfl) rfl
      change (fun v _ => v = Value.bool true) v37w wF at g37w
      have ew := e37w 81 rfl
      refine flow_see ho (by simp only [Region.wanted, yielded]; simp [ew, g37w]) (fun _ _ h => by cases h) ⟨#[undef, undef, undef, undef, undef, (Value.slice sa 48 sc), undef, undef, undef, undef, undef, undef, undef, undef, undef, undef, undef, undef, undef, undef, undef, undef, undef, undef, undef, undef, undef, undef, undef, undef, undef, undef, undef, undef, undef, undef, undef, undef, undef, undef, undef, undef, undef, undef, undef, undef, undef, undef, undef, undef, undef, undef, undef, undef, undef, undef, undef, undef, undef, undef, undef, undef, undef, undef, undef, undef, undef, undef, undef, undef, undef, undef, undef, undef, undef, undef, undef, undef, undef, undef, undef, undef, undef], []⟩ (by simp only [Op.operands, Call.operands]; simp; try (repeat' (first | rfl | exact e5 | trivial | refine ⟨?_, ?_⟩))) (v := Value.slice sa 48 sc) ?_ hU ?_ (hSr wF)
      · (go_simp <;> with_reducible rfl)
      · exact rfl
    · intro ho aF wF hU hF
      obtain ⟨v38, g38, e82⟩ := hF.at_ 38 (by kernel_rfl) rfl rfl
      change (fun v _ => v = Value.slice sa 48 sc) v38 wF at g38
      replace e82 := e82.trans g38
      obtain ⟨v37w, g37w, e37w⟩ := hF.got 37 _ (by kernel_rfl) rfl
      change (fun v _ => v = Value.bool true) v37w wF at g37w
      have ew := e37w 81 rfl
      refine flow_at ho (by simp only [Region.wanted, yielded]; simp [ew, g37w]) (fun _ _ h => by cases h) ⟨#[undef, undef, undef, undef, undef, undef, undef, undef, undef, undef, undef, undef, undef, undef, undef, undef, undef, undef, undef, undef, undef, undef, undef, undef, undef, undef, undef, undef, undef, undef, undef, undef, undef, undef, undef, undef, undef, undef, undef, undef, undef, undef, undef, undef, undef, undef, undef, undef, undef, undef, undef, undef, undef, undef, undef, undef, undef, undef, undef, undef, undef, undef, undef, undef, undef, undef, undef, undef, undef, undef, undef, undef, undef, undef, undef, undef, undef, undef, undef, undef, undef, undef, (Value.slice sa 48 sc), undef], []⟩ (fun d h => by cases h; exact (by decide : (83 : Nat) < 84)) (by simp only [Op.operands, Call.operands]; simp; try (repeat' (first | rfl | exact e82 | trivial | refine ⟨?_, ?_⟩))) (fun K hK => ?_)
      refine wp_str _ _ 25 9 5 rfl Try.underlying25 Try.underlying5 Try.underlying9 (.slice sa 48 sc) sm rfl (HRs.out.kept hU (fun _ _ _ _ f => f)) ?_
      exact hK.out _ _ _ rfl hU rfl (hSr _)
    · intro ho aF wF hU hF
      have e7 : aF.eval (.tmp 7) = Value.slice pa 32 pc := hF.out 7 (by kernel_rfl)
      obtain ⟨v37w, g37w, e37w⟩ := hF.got 37 _ (by kernel_rfl) rfl
      change (fun v _ => v = Value.bool true) v37w wF at g37w
      have ew := e37w 81 rfl
      refine flow_see ho (by simp only [Region.wanted, yielded]; simp [ew, g37w]) (fun _ _ h => by cases h) ⟨#[undef, undef, undef, undef, undef, undef, undef, (Value.slice pa 32 pc), undef, undef, undef, undef, undef, undef, undef, undef, undef, undef, undef, undef, undef, undef, undef, undef, undef, undef, undef, undef, undef, undef, undef, undef, undef, undef, undef, undef, undef, undef, undef, undef, undef, undef, undef, undef, undef, undef, undef, undef, undef, undef, undef, undef, undef, undef, undef, undef, undef, undef, undef, undef, undef, undef, undef, undef, undef, undef, undef, undef, undef, undef, undef, undef, undef, undef, undef, undef, undef, undef, undef, undef, undef, undef, undef, undef, undef], []⟩ (by simp only [Op.operands, Call.operands]; simp; try (repeat' (first | rfl | exact e7 | trivial | refine ⟨?_, ?_⟩))) (v := Value.slice pa 32 pc) ?_ hU ?_ (hSr wF)
      · (go_simp <;> with_reducible rfl)
      · exact rfl
    · intro ho aF wF hU hF
      obtain ⟨v40, g40, e84⟩ := hF.at_ 40 (by kernel_rfl) rfl rfl
      change (fun v _ => v = Value.slice pa 32 pc) v40 wF at g40
      replace e84 := e84.trans g40
      obtain ⟨v37w, g37w, e37w⟩ := hF.got 37 _ (by kernel_rfl) rfl
      change (fun v _ => v = Value.bool true) v37w wF at g37w
      have ew := e37w 81 rfl
      refine flow_at ho (by simp only [Region.wanted, yielded]; simp [ew, g37w]) (fun _ _ h => by cases h) ⟨#[undef, undef, undef, undef, undef, undef, undef, undef, undef, undef, undef, undef, undef, undef, undef, undef, undef, undef, undef, undef, undef, undef, undef, undef, undef, undef, undef, undef, undef, undef, undef, undef, undef, undef, undef, undef, undef, undef, undef, undef, undef, undef, undef, undef, undef, undef, undef, undef, undef, undef, undef, undef, undef, undef, undef, undef, undef, undef, undef, undef, undef, undef, undef, undef, undef, undef, undef, undef, undef, undef, undef, undef, undef, undef, undef, undef, undef, undef, undef, undef, undef, undef, undef, undef, (Value.slice pa 32 pc), undef], []⟩ (fun d h => by cases h; exact (by decide : (85 : Nat) < 86)) (by simp only [Op.operands, Call.operands]; simp; try (repeat' (first | rfl | exact e84 | trivial | refine ⟨?_, ?_⟩))) (fun K hK => ?_)
      refine wp_str _ _ 25 9 5 rfl Try.underlying25 Try.underlying5 Try.underlying9 (.slice pa 32 pc) pm rfl (HRp.out.kept hU (fun _ _ _ _ f => f)) ?_
      exact hK.out _ _ _ rfl hU rfl (hSr _)
    · intro ho aF wF hU hF
      have e11 : aF.eval (.tmp 11) = Value.pointer (some ⟨bt, 0, none⟩) := hF.out 11 (by kernel_rfl)
      obtain ⟨v37w, g37w, e37w⟩ := hF.got 37 _ (by kernel_rfl) rfl
      change (fun v _ => v = Value.bool true) v37w wF at g37w
      have ew := e37w 81 rfl
      refine flow_see ho (by simp only [Region.wanted, yielded]; simp [ew, g37w]) (fun _ _ h => by cases h) ⟨#[undef, undef, undef, undef, undef, undef, undef, undef, undef, undef, undef, (Value.pointer (some ⟨bt, 0, none⟩)), undef, undef, undef, undef, undef, undef, undef, undef, undef, undef, undef, undef, undef, undef, undef, undef, undef, undef, undef, undef, undef, undef, undef, undef, undef, undef, undef, undef, undef, undef, undef, undef, undef, undef, undef, undef, undef, undef, undef, undef, undef, undef, undef, undef, undef, undef, undef, undef, undef, undef, undef, undef, undef, undef, undef, undef, undef, undef, undef, undef, undef, undef, undef, undef, undef, undef, undef, undef, undef, undef, undef, undef, undef, undef, undef], []⟩ (by simp only [Op.operands, Call.operands]; simp; try (repeat' (first | rfl | exact e11 | trivial | refine ⟨?_, ?_⟩))) (v := Value.agg #[.int .u64 (u t.1), .int .u64 (u t.2)]) ?_ hU ?_ (hSr wF)
      · (obtain ⟨⟨a0, a1, a2, a3, a4, a5, a6⟩, ⟨k0, k1⟩, ⟨x0, x1, x2, x3, x4, x5, x6⟩, ⟨t0, t1⟩⟩ := HK4 wF hU; go_simp)
      · exact rfl
    · intro ho aF wF hU hF
      obtain ⟨v42, g42, e86⟩ := hF.at_ 42 (by kernel_rfl) rfl rfl
      change (fun v _ => v = Value.agg #[.int .u64 (u t.1), .int .u64 (u t.2)]) v42 wF at g42
      replace e86 := e86.trans g42
      obtain ⟨v37w, g37w, e37w⟩ := hF.got 37 _ (by kernel_rfl) rfl
      change (fun v _ => v = Value.bool true) v37w wF at g37w
      have ew := e37w 81 rfl
      refine flow_at ho (by simp only [Region.wanted, yielded]; simp [ew, g37w]) (fun _ _ h => by cases h) ⟨#[undef, undef, undef, undef, undef, undef, undef, undef, undef, undef, undef, undef, undef, undef, undef, undef, undef, undef, undef, undef, undef, undef, undef, undef, undef, undef, undef, undef, undef, undef, undef, undef, undef, undef, undef, undef, undef, undef, undef, undef, undef, undef, undef, undef, undef, undef, undef, undef, undef, undef, undef, undef, undef, undef, undef, undef, undef, undef, undef, undef, undef, undef, undef, undef, undef, undef, undef, undef, undef, undef, undef, undef, undef, undef, undef, undef, undef, undef, undef, undef, undef, undef, undef, undef, undef, undef, (Value.agg #[.int .u64 (u t.1), .int .u64 (u t.2)]), undef], []⟩ (fun d h => by cases h; exact (by decide : (87 : Nat) < 88)) (by simp only [Op.operands, Call.operands]; simp; try (repeat' (first | rfl | exact e86 | trivial | refine ⟨?_, ?_⟩))) (fun K hK => ?_)
      go_simp
      go_wp2_with (go_at_call 40; refine (mbytes_any t _).mono ?_; rintro e w6 ⟨v6, rfl, ho6, hf6⟩)
      exact hK.out v6 w6 _ rfl (hU.trans hf6) (ho6.mono hU.size) hf6
    · intro ho aF wF hU hF
      obtain ⟨v43, g43, e87⟩ := hF.at_ 43 (by kernel_rfl) rfl rfl
      change (fun v w' => Own w' w5.heap.size 5 v ((tagB t).map bv)) v43 wF at g43
      try dsimp only at g43
      obtain ⟨v37w, g37w, e37w⟩ := hF.got 37 _ (by kernel_rfl) rfl
      change (fun v _ => v = Value.bool true) v37w wF at g37w
      have ew := e37w 81 rfl
      refine flow_at ho (by simp only [Region.wanted, yielded]; simp [ew, g37w]) (fun _ _ h => by cases h) ⟨#[undef, undef, undef, undef, undef, undef, undef, undef, undef, undef, undef, undef, undef, undef, undef, undef, undef, undef, undef, undef, undef, undef, undef, undef, undef, undef, undef, undef, undef, undef, undef, undef, undef, undef, undef, undef, undef, undef, undef, undef, undef, undef, undef, undef, undef, undef, undef, undef, undef, undef, undef, undef, undef, undef, undef, undef, undef, undef, undef, undef, undef, undef, undef, undef, undef, undef, undef, undef, undef, undef, undef, undef, undef, undef, undef, undef, undef, undef, undef, undef, undef, undef, undef, undef, undef, undef, undef, (v43), undef], []⟩ (fun d h => by cases h; exact (by decide : (88 : Nat) < 89)) (by simp only [Op.operands, Call.operands]; simp; try (repeat' (first | rfl | exact e87 | trivial | refine ⟨?_, ?_⟩))) (fun K hK => ?_)
      refine wp_str _ _ 25 9 5 rfl Try.underlying25 Try.underlying5 Try.underlying9 v43 (tagB t) rfl g43.rd ?_
      exact hK.out _ _ _ rfl hU rfl (hSr _)
    · intro ho aF wF hU hF
      obtain ⟨v41, g41, e85⟩ := hF.at_ 41 (by kernel_rfl) rfl rfl
      change (fun v _ => v = Value.string (bs pm)) v41 wF at g41
      replace e85 := e85.trans g41
      obtain ⟨v44, g44, e88⟩ := hF.at_ 44 (by kernel_rfl) rfl rfl
      change (fun v _ => v = Value.string (bs (tagB t))) v44 wF at g44
      replace e88 := e88.trans g44
      obtain ⟨v37w, g37w, e37w⟩ := hF.got 37 _ (by kernel_rfl) rfl
      change (fun v _ => v = Value.bool true) v37w wF at g37w
      have ew := e37w 81 rfl
      refine flow_see ho (by simp only [Region.wanted, yielded]; simp [ew, g37w]) (fun _ _ h => by cases h) ⟨#[undef, undef, undef, undef, undef, undef, undef, undef, undef, undef, undef, undef, undef, undef, undef, undef, undef, undef, undef, undef, undef, undef, undef, undef, undef, undef, undef, undef, undef, undef, undef, undef, undef, undef, undef, undef, undef, undef, undef, undef, undef, undef, undef, undef, undef, undef, undef, undef, undef, undef, undef, undef, undef, undef, undef, undef, undef, undef, undef, undef, undef, undef, undef, undef, undef, undef, undef, undef, undef, undef, undef, undef, undef, undef, undef, undef, undef, undef, undef, undef, undef, undef, undef, undef, undef, (Value.string (bs pm)), undef, undef, (Value.string (bs (tagB t))), undef], []⟩ (by simp only [Op.operands, Call.operands]; simp; try (repeat' (first | rfl | exact e85 | exact e88 | trivial | refine ⟨?_, ?_⟩))) (v := Value.string (bs sm)) ?_ hU ?_ (hSr wF)
      · (go_simp <;> with_reducible rfl)
      · exact rfl
    · intro ho aF wF hU hF
      obtain ⟨v39, g39, e83⟩ := hF.at_ 39 (by kernel_rfl) rfl rfl
      change (fun v _ => v = Value.string (bs sm)) v39 wF at g39
      replace e83 := e83.trans g39
      obtain ⟨v45, g45, e89⟩ := hF.at_ 45 (by kernel_rfl) rfl rfl
      change (fun v _ => v = Value.string (bs sm)) v45 wF at g45
      replace e89 := e89.trans g45
      obtain ⟨v37w, g37w, e37w⟩ := hF.got 37 _ (by kernel_rfl) rfl
      change (fun v _ => v = Value.bool true) v37w wF at g37w
      have ew := e37w 81 rfl
      refine flow_see ho (by simp only [Region.wanted, yielded]; simp [ew, g37w]) (fun _ _ h => by cases h) ⟨#[undef, undef, undef, undef, undef, undef, undef, undef, undef, undef, undef, undef, undef, undef, undef, undef, undef, undef, undef, undef, undef, undef, undef, undef, undef, undef, undef, undef, undef, undef, undef, undef, undef, undef, undef, undef, undef, undef, undef, undef, undef, undef, undef, undef, undef, undef, undef, undef, undef, undef, undef, undef, undef, undef, undef, undef, undef, undef, undef, undef, undef, undef, undef, undef, undef, undef, undef, undef, undef, undef, undef, undef, undef, undef, undef, undef, undef, undef, undef, undef, undef, undef, undef, (Value.string (bs sm)), undef, undef, undef, undef, undef, (Value.string (bs sm)), undef], []⟩ (by simp only [Op.operands, Call.operands]; simp; try (repeat' (first | rfl | exact e83 | exact e89 | trivial | refine ⟨?_, ?_⟩))) (v := Value.bool true) ?_ hU ?_ (hSr wF)
      · (go_simp <;> with_reducible rfl)
      · exact rfl
    · intro ho aF wF hU hF
      obtain ⟨v37, g37, e81⟩ := hF.at_ 37 (by kernel_rfl) rfl rfl
      change (fun v _ => v = Value.bool true) v37 wF at g37
      replace e81 := e81.trans g37
      obtain ⟨v46, g46, e90⟩ := hF.at_ 46 (by kernel_rfl) rfl rfl
      change (fun v _ => v = Value.bool true) v46 wF at g46
      replace e90 := e90.trans g46
      refine flow_see ho rfl (fun _ _ h => by cases h) ⟨#[undef, undef, undef, undef, undef, undef, undef, undef, undef, undef, undef, undef, undef, undef, undef, undef, undef, undef, undef, undef, undef, undef, undef, undef, undef, undef, undef, undef, undef, undef, undef, undef, undef, undef, undef, undef, undef, undef, undef, undef, undef, undef, undef, undef, undef, undef, undef, undef, undef, undef, undef, undef, undef, undef, undef, undef, undef, undef, undef, undef, undef, undef, undef, undef, undef, undef, undef, undef, undef, undef, undef, undef, undef, undef, undef, undef, undef, undef, undef, undef, undef, (Value.bool true), undef, undef, undef, undef, undef, undef, undef, undef, (Value.bool true), undef], []⟩ (by simp only [Op.operands, Call.operands]; simp; try (repeat' (first | rfl | exact e81 | exact e90 | trivial | refine ⟨?_, ?_⟩))) (v := Value.bool true) ?_ hU ?_ (hSr wF)
      · (go_simp <;> with_reducible rfl)
      · exact rfl
    · intro ho aF wF hU hF
      obtain ⟨v47, g47, e91⟩ := hF.at_ 47 (by kernel_rfl) rfl rfl
      change (fun v _ => v = Value.bool true) v47 wF at g47
      replace e91 := e91.trans g47
      refine flow_see ho rfl (fun _ _ h => by cases h) ⟨#[undef, undef, undef, undef, undef, undef, undef, undef, undef, undef, undef, undef, undef, undef, undef, undef, undef, undef, undef, undef, undef, undef, undef, undef, undef, undef, undef, undef, undef, undef, undef, undef, undef, undef, undef, undef, undef, undef, undef, undef, undef, undef, undef, undef, undef, undef, undef, undef, undef, undef, undef, undef, undef, undef, undef, undef, undef, undef, undef, undef, undef, undef, undef, undef, undef, undef, undef, undef, undef, undef, undef, undef, undef, undef, undef, undef, undef, undef, undef, undef, undef, undef, undef, undef, undef, undef, undef, undef, undef, undef, undef, (Value.bool true)], []⟩ (by simp only [Op.operands, Call.operands]; simp; try (repeat' (first | rfl | exact e91 | trivial | refine ⟨?_, ?_⟩))) (v := Value.bool true) ?_ hU ?_ (hSr wF)
      · (go_simp <;> with_reducible rfl)
      · exact rfl
  intro g wE hUE hGE
  have gE0 := hGE 0 (by decide)
  change (fun v _ => v = Value.bool true) (g 0) wE at gE0
  have gE1 := hGE 1 (by decide)
  change (fun v _ => v = Value.bool true) (g 1) wE at gE1
  have gE2 := hGE 2 (by decide)
  change (fun v _ => v = Value.int .i64 0) (g 2) wE at gE2
  have gE3 := hGE 3 (by decide)
  change (fun v _ => v = Value.bool true) (g 3) wE at gE3
  have gE4 := hGE 4 (by decide)
  change (fun v _ => v = Value.bool true) (g 4) wE at gE4
  have gE5 := hGE 5 (by decide)
  change (fun v _ => v = Value.bool true) (g 5) wE at gE5
  have gE6 := hGE 6 (by decide)
  change (fun v _ => v = Value.int .i64 0) (g 6) wE at gE6
  have gE7 := hGE 7 (by decide)
  change (fun v _ => v = Value.bool true) (g 7) wE at gE7
  have gE8 := hGE 8 (by decide)
  change (fun v _ => v = Value.bool true) (g 8) wE at gE8
  have gE9 := hGE 9 (by decide)
  change (fun v _ => v = Value.bool true) (g 9) wE at gE9
  have gE10 := hGE 10 (by decide)
  change (fun v _ => v = Value.int .i64 0) (g 10) wE at gE10
  have gE11 := hGE 11 (by decide)
  change (fun v _ => v = Value.bool true) (g 11) wE at gE11
  have gE12 := hGE 12 (by decide)
  change (fun v _ => v = Value.bool true) (g 12) wE at gE12
  have gE13 := hGE 13 (by decide)
  change (fun v _ => v = Value.bool true) (g 13) wE at gE13
  have gE14 := hGE 14 (by decide)
  change (fun v _ => v = Value.slice sa 48 sc) (g 14) wE at gE14
  have gE15 := hGE 15 (by decide)
  change (fun v _ => v = Value.int .i64 48) (g 15) wE at gE15
  have gE16 := hGE 16 (by decide)
  change (fun v _ => v = Value.bool true) (g 16) wE at gE16
  have gE17 := hGE 17 (by decide)
  change (fun v _ => v = Value.bool true) (g 17) wE at gE17
  have gE18 := hGE 18 (by decide)
  change (fun v _ => v = Value.bool true) (g 18) wE at gE18
  have gE19 := hGE 19 (by decide)
  change (fun v _ => v = Value.agg #[.int .i64 m.kind, .int .i64 m.who, .int .i64 m.gen, .int .i64 m.seq, .int .i64 m.epoch, .int .i64 m.value, .int .i64 m.metric]) (g 19) wE at gE19
  have gE20 := hGE 20 (by decide)
  change (fun v _ => v = Value.agg #[.int .i64 m.kind, .int .i64 m.who, .int .i64 m.gen, .int .i64 m.seq, .int .i64 m.epoch, .int .i64 m.value, .int .i64 m.metric]) (g 20) wE at gE20
  have gE21 := hGE 21 (by decide)
  change (fun v _ => v = Value.bool true) (g 21) wE at gE21
  have gE22 := hGE 22 (by decide)
  change (fun v _ => v = Value.bool true) (g 22) wE at gE22
  have gE23 := hGE 23 (by decide)
  change (fun v _ => v = Value.bool true) (g 23) wE at gE23
  have gE24 := hGE 24 (by decide)
  change (fun v _ => v = Value.slice ya 32 yc) (g 24) wE at gE24
  have gE25 := hGE 25 (by decide)
  change (fun v _ => v = Value.string (bs pm)) (g 25) wE at gE25
  have gE26 := hGE 26 (by decide)
  change (fun v _ => v = Value.slice pa 32 pc) (g 26) wE at gE26
  have gE27 := hGE 27 (by decide)
  change (fun v _ => v = Value.string (bs pm)) (g 27) wE at gE27
  have gE28 := hGE 28 (by decide)
  change (fun v _ => v = Value.bool true) (g 28) wE at gE28
  have gE29 := hGE 29 (by decide)
  change (fun v _ => v = Value.bool true) (g 29) wE at gE29
  have gE30 := hGE 30 (by decide)
  change (fun v _ => v = Value.bool true) (g 30) wE at gE30
  have gE31 := hGE 31 (by decide)
  change (fun v _ => v = Value.agg #[.int .u64 (u t.1), .int .u64 (u t.2)]) (g 31) wE at gE31
  have gE32 := hGE 32 (by decide)
  change (fun v _ => v = Value.agg #[.int .u64 (u k.1), .int .u64 (u k.2)]) (g 32) wE at gE32
  have gE33 := hGE 33 (by decide)
  change (fun v _ => v = Value.slice pa 32 pc) (g 33) wE at gE33
  have gE34 := hGE 34 (by decide)
  change (fun v _ => v = Value.agg #[.int .u64 (u t.1), .int .u64 (u t.2)]) (g 34) wE at gE34
  have gE35 := hGE 35 (by decide)
  change (fun v _ => v = Value.bool true) (g 35) wE at gE35
  have gE36 := hGE 36 (by decide)
  change (fun v _ => v = Value.bool true) (g 36) wE at gE36
  have gE37 := hGE 37 (by decide)
  change (fun v _ => v = Value.bool true) (g 37) wE at gE37
  have gE38 := hGE 38 (by decide)
  change (fun v _ => v = Value.slice sa 48 sc) (g 38) wE at gE38
  have gE39 := hGE 39 (by decide)
  change (fun v _ => v = Value.string (bs sm)) (g 39) wE at gE39
  have gE40 := hGE 40 (by decide)
  change (fun v _ => v = Value.slice pa 32 pc) (g 40) wE at gE40
  have gE41 := hGE 41 (by decide)
  change (fun v _ => v = Value.string (bs pm)) (g 41) wE at gE41
  have gE42 := hGE 42 (by decide)
  change (fun v _ => v = Value.agg #[.int .u64 (u t.1), .int .u64 (u t.2)]) (g 42) wE at gE42
  have gE43 := hGE 43 (by decide)
  change (fun v w' => Own w' w5.heap.size 5 v ((tagB t).map bv)) (g 43) wE at gE43
  try dsimp only at gE43
  have gE44 := hGE 44 (by decide)
  change (fun v _ => v = Value.string (bs (tagB t))) (g 44) wE at gE44
  have gE45 := hGE 45 (by decide)
  change (fun v _ => v = Value.string (bs sm)) (g 45) wE at gE45
  have gE46 := hGE 46 (by decide)
  change (fun v _ => v = Value.bool true) (g 46) wE at gE46
  have gE47 := hGE 47 (by decide)
  change (fun v _ => v = Value.bool true) (g 47) wE at gE47
  have gE48 := hGE 48 (by decide)
  change (fun v _ => v = Value.bool true) (g 48) wE at gE48
  simp only [fillA, Act.put, List.setIfInBounds_toArray, List.set_cons_zero, List.set_cons_succ, gE0, gE1, gE2, gE3, gE4, gE5, gE6, gE7, gE8, gE9, gE10, gE11, gE12, gE13, gE14, gE15, gE16, gE17, gE18, gE19, gE20, gE21, gE22, gE23, gE24, gE25, gE26, gE27, gE28, gE29, gE30, gE31, gE32, gE33, gE34, gE35, gE36, gE37, gE38, gE39, gE40, gE41, gE42, gE44, gE45, gE46, gE47, gE48]
  clear hGE gE0 gE1 gE2 gE3 gE4 gE5 gE6 gE7 gE8 gE9 gE10 gE11 gE12 gE13 gE14 gE15 gE16 gE17 gE18 gE19 gE20 gE21 gE22 gE23 gE24 gE25 gE26 gE27 gE28 gE29 gE30 gE31 gE32 gE33 gE34 gE35 gE36 gE37 gE38 gE39 gE40 gE41 gE42 gE44 gE45 gE46 gE47 gE48
  generalize g 43 = vE43 at *
  go_wp2
  go_ret
  exact ⟨rfl, HF5.out.trans hUE⟩

namespace wireSeals
open Go Go.ChangeShapes Go.WideShapes Go.ChangeAt Go.RowKit
set_option linter.unusedVariables false
set_option maxRecDepth 100000 in
theorem lifted (os : Os) (started : os.Started) (H : Type) (enc : TypeId × Value → H) :
    ReturnsInHanded {} Try.checked os 19 .any (Rows.wireSealsSpec.pre6 enc Try.prog Try.f19 Rows.wireSealsRow.domain false) (Rows.wireSealsSpec.post enc Try.prog Try.f19 false true false false) := by
  refine returnsInHanded_of_change (C := Try.checked) owned started (by kernel_rfl) Try.func19
    (ChangeSpec.witness6 (enc := enc) (C := Try.checked) false ⟨#[], #[.agg #[.int .i64 0, .int .i64 0, .int .i64 0, .int .i64 0, .int .i64 0, .int .i64 0, .int .i64 0], .agg #[.int .u64 0, .int .u64 0]], []⟩ 8 (by kernel_rfl) (by kernel_rfl) (by kernel_rfl) (by kernel_rfl)) ?_
  intro W base args ds gs before hval0 hW hcnd _
  have hval : ∀ (j : Nat) t v, Try.f19.params[j]? = some t → args[j]? = some v → Value.okWide Try.prog W .any base t v := hval0
  have hW' := hW
  obtain ⟨p, q, hA0, hV, rfl, hfz, hnd⟩ := hW
  have hA : DataW.TrodAll enc Try.prog W 0 (fun _ => true) true Try.f19.params.toList args.toList ds p := hA0
  rw [Try.params19] at hA hval
  obtain ⟨v0, vs0, d0, ds0, p0, q0, hargs, rfl, rfl, h0, r0⟩ := trodAll_cons hA
  obtain ⟨v1, vs1, d1, ds1, p1, q1, rfl, rfl, rfl, h1, r1⟩ := trodAll_cons r0
  obtain ⟨rfl, rfl, rfl⟩ := trodAll_nil r1
  obtain rfl : args = #[v0, v1] := by cases args; simp_all
  obtain ⟨rfl, rfl⟩ := trodVars_none hV
  have k0 := h0
  have lt0 : ∀ x ∈ p0, x.block < W.heap.size := by obtain ⟨m, hm⟩ := k0; exact DataW.trod_lt m _ _ _ hm
  have k1 := h1
  have lt1 : ∀ x ∈ p1, x.block < W.heap.size := by obtain ⟨m, hm⟩ := k1; exact DataW.trod_lt m _ _ _ hm
  obtain ⟨x0, hx0, rfl⟩ := open_msg Try.underlying68 (by kernel_rfl) (by kernel_rfl) (by kernel_rfl) (hval 0 68 v0 rfl rfl) h0
  obtain ⟨x1, rfl⟩ := open_arr2 Try.underlying23 Try.underlying22 (by kernel_rfl) (by kernel_rfl) (hval 1 23 v1 rfl rfl) h1
  clear hA0 hval0
  refine (walk_WireSeals W x0 hx0 x1).mono fun e W' ⟨he, fr⟩ => ?_
  subst he
  have bel := fr.below
  exact ⟨_, rfl, _, _, _, [], _, [], hW', trodAll_mk1 (shut_bool Try.underlying4 _), (trodAll_cons_mk (Below.trod laid (by kernel_rfl) (of_decide_eq_true (by kernel_rfl)) k0 bel lt0) (trodAll_cons_mk (Below.trod laid (by kernel_rfl) (of_decide_eq_true (by kernel_rfl)) k1 bel lt1) trodAll_mk0)), rfl, bel.frame _, fun h => by cases h⟩

theorem inPlace : Try.prog.inPlace 19 = [] := inPlace_none _ _ (by kernel_rfl)
theorem closed : joinedFacts Try.prog 19 Try.f19 Rows.wireSealsSpec Rows.wireSealsRow = true := by
  unfold joinedFacts
  repeat' (with_reducible refine and_mk ?_ ?_)
  all_goals first
    | with_reducible exact enters
    | with_reducible exact laid
    | with_reducible exact rowed
    | with_reducible exact noStops
    | with_reducible exact noKnobs
    | with_reducible exact heard
    | (rw [lifts]; as_aux_lemma => kernel_rfl)
    | (rw [makes]; as_aux_lemma => kernel_rfl)
    | (rw [plains]; as_aux_lemma => kernel_rfl)
    | (rw [inPlace]; as_aux_lemma => kernel_rfl)
    | as_aux_lemma => kernel_rfl
theorem named : Try.prog.funcNamed Rows.wireSealsRow.func = some 19 := by kernel_rfl
theorem isOne : (Try.f19).isInstance Try.prog Rows.wireSealsRow.origin Rows.wireSealsRow.targs := of_decide_eq_true (by kernel_rfl)
theorem wraps : (Try.f19).isWrapper Try.prog Rows.wireSealsRow.wrapper Rows.wireSealsRow.mainSum := by unfold Func.isWrapper; first | (rw [if_pos (by decide +kernel)]; kernel_rfl) | (rw [if_neg (by decide +kernel)]; exact ⟨rfl, rfl⟩)
theorem over : Rows.wireSealsRow.holds Try.pinned (OpenSpec.ofChange Rows.wireSealsSpec) :=
  OpenClaim.holds_of_wide 19 Try.f19 rfl rfl rfl rfl rfl rfl rfl ⟨rfl, rfl, rfl, rfl, rfl⟩ rfl rfl rfl rfl rfl named Try.func19 closed
    isOne wraps
    (fun os started H enc _ => lifted os started H enc)

/-- THE STATEMENT. -/
theorem proved : Rows.WireSealsSaid := over
#print axioms proved
end wireSeals
end Go.Proofs.Ytandenkoejbloaa
