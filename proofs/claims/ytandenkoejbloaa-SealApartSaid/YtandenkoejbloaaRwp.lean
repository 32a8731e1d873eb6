/- Walk of the document's PutMsg. -/
import Derived.Test.YtandenkoejbloaaWput
import Derived.Test.YtandenkoejbloaaFlow
import Derived.Test.YtandenkoejbloaaRput
import Derived.Test.YtandenkoejbloaaOps
namespace Go.Proofs.Ytandenkoejbloaa
open Go Go.RowKit

theorem bs_extract (l : List UInt8) (a b : Nat) : (bs l).extract a b = bs ((l.take b).drop a) := by
  apply ByteArray.ext
  rw [ByteArray.data_extract]
  unfold bs
  apply Array.ext'
  simp [Array.toList_extract, List.extract_eq_take_drop, List.drop_take]

theorem Blk.at7m {w w' : World} {b : Nat} {e : TypeId} {x0 x1 x2 x3 x4 x5 x6 : Value} (h : Blk w b e [x0, x1, x2, x3, x4, x5, x6]) (hf : Fr none_ w w') :
    w'.cell? ⟨b, 0, none⟩ = some x0 ∧ w'.cell? ⟨b, 1, none⟩ = some x1 ∧ w'.cell? ⟨b, 2, none⟩ = some x2 ∧ w'.cell? ⟨b, 3, none⟩ = some x3 ∧ w'.cell? ⟨b, 4, none⟩ = some x4 ∧ w'.cell? ⟨b, 5, none⟩ = some x5 ∧ w'.cell? ⟨b, 6, none⟩ = some x6 :=
  have h' := h.kept hf (fun f => f)
  ⟨h'.cell_of rfl, h'.cell_of rfl, h'.cell_of rfl, h'.cell_of rfl, h'.cell_of rfl, h'.cell_of rfl, h'.cell_of rfl⟩

set_option maxRecDepth 100000 in
set_option maxHeartbeats 300000 in
theorem rputm_bad (m : Ms) (w : World) (hm : mayM m = false) : Calls Try.prog 54 #[msgv m] w fun e w' => e = .returned (.tuple #[.string (bs []), .int .i64 1]) ∧ Fr none_ w w' := by
  have hF := (Fr.refl none_ w).alloc (.cells #[.int .i64 m.kind, .int .i64 m.who, .int .i64 m.gen, .int .i64 m.seq, .int .i64 m.epoch, .int .i64 m.value, .int .i64 m.metric] 68)
  have HM := fun wa => rmay_any m wa
  rw [hm] at HM
  unfold msgv at *
  go_enter Try.func54, Try.ntmps54
  go_wp2_with fail
  refine (HM _).mono ?_
  rintro e w1 ⟨rfl, hf1⟩
  go_wp2
  exact bodyPost_ret (v := .tuple #[.string (bs []), .int .i64 1]) (by simp [results, Try.results54, go_sem]; rfl) rfl ⟨rfl, hF.trans hf1⟩

set_option maxRecDepth 100000 in
set_option maxHeartbeats 600000 in
theorem rputm_ok (m : Ms) (w : World) (hm : mayM m = true) : Calls Try.prog 54 #[msgv m] w fun e w' => e = .returned (.tuple #[.string (bs (msgB m)), .int .i64 0]) ∧ Fr none_ w w' := by
  have hB := Blk.new w #[.int .i64 m.kind, .int .i64 m.who, .int .i64 m.gen, .int .i64 m.seq, .int .i64 m.epoch, .int .i64 m.value, .int .i64 m.metric] 68
  have hF := (Fr.refl none_ w).alloc (.cells #[.int .i64 m.kind, .int .i64 m.who, .int .i64 m.gen, .int .i64 m.seq, .int .i64 m.epoch, .int .i64 m.value, .int .i64 m.metric] 68)
  have HM := fun wa => rmay_any m wa
  rw [hm] at HM
  have hu8 := u8_wi
  have hu64 := u64_wi
  have hsz : ∀ x, (bs (putB x)).size = 8 := fun x => by rw [bs_size, putB_length]
  have hext : (bs (putB (wi m.gen))).extract 0 4 = bs ((putB (wi m.gen)).take 4) := by rw [bs_extract]; rfl
  have hadd1 : Op.stringOp .add (bs [1, lo (wi m.kind), lo (wi m.who), lo (wi m.metric)]) (bs ((putB (wi m.gen)).take 4)) = pure (.string (bs (headB m))) := str_add _ _ (by simp [putB_length])
  have hadd2 : Op.stringOp .add (bs (headB m)) (bs (putB (wi m.seq))) = pure (.string (bs (headB m ++ putB (wi m.seq)))) := str_add _ _ (by simp [putB_length, head_length])
  have hadd3 : Op.stringOp .add (bs (headB m ++ putB (wi m.seq))) (bs (putB (wi m.epoch))) = pure (.string (bs (headB m ++ putB (wi m.seq) ++ putB (wi m.epoch)))) := str_add _ _ (by simp [putB_length, head_length])
  have hadd4 : Op.stringOp .add (bs (headB m ++ putB (wi m.seq) ++ putB (wi m.epoch))) (bs (putB (wi m.value))) = pure (.string (bs (msgB m))) := str_add _ _ (by simp [putB_length, head_length])
  unfold msgv at *
  go_enter Try.func54, Try.ntmps54
  go_wp2_with fail
  refine (HM _).mono ?_
  rintro e w1 ⟨rfl, hf1⟩
  have hB1 := hB.kept hf1 (fun f => f)
  have HF1 := Lib.hid (hF.trans hf1)
  have HK : ∀ w' : World, Fr none_ w1 w' → _ := fun w' hf => hB1.at7m hf
  clear hB hF hf1 HM
  have hSr : ∀ a : World, Fr none_ a a := fun a => Fr.refl none_ a
  generalize bs (headB m ++ putB (wi m.seq) ++ putB (wi m.epoch)) = s3 at *
  generalize bs (headB m ++ putB (wi m.seq)) = s2 at *
  generalize bs (headB m) = s1 at *
  generalize hs0 : bs ((putB (wi m.gen)).take 4) = s0 at *
  go_wp2_with fail
  refine region_flow [0, 1, 2, 0, 8, 16, 0, 64, 128, 292, 512, 0, 2048, 4096, 8192, 16384, 33792, 0, 131072, 262144, 540672, 1114112, 0, 4194304, 8388608, 17825792, 35651584, 0, 134217728, 268435456, 570425344, 1140850688, 4294967295, 8589934591] [0, 1, 3, 0, 8, 24, 0, 64, 192, 511, 1023, 0, 2048, 6144, 14336, 30720, 65535, 0, 131072, 393216, 948224, 2097151, 0, 4194304, 12582912, 31356928, 67108863, 0, 134217728, 402653184, 1004435456, 2147483647, 4294967295, 8589934591] (fun w' => Fr none_ w1 w') (gl [(fun v _ => v = Value.pointer (some ⟨w.heap.size, 0, none⟩)), (fun v _ => v = Value.int .i64 m.kind), (fun v _ => v = Value.int .u8 (v8 (lo (wi m.kind)))), (fun v _ => v = Value.pointer (some ⟨w.heap.size, 1, none⟩)), (fun v _ => v = Value.int .i64 m.who), (fun v _ => v = Value.int .u8 (v8 (lo (wi m.who)))), (fun v _ => v = Value.pointer (some ⟨w.heap.size, 6, none⟩)), (fun v _ => v = Value.int .i64 m.metric), (fun v _ => v = Value.int .u8 (v8 (lo (wi m.metric)))), (fun v w' => Own w' w1.heap.size 5 v ([1, lo (wi m.kind), lo (wi m.who), lo (wi m.metric)].map bv)), (fun v _ => v = Value.string (bs [1, lo (wi m.kind), lo (wi m.who), lo (wi m.metric)])), (fun v _ => v = Value.pointer (some ⟨w.heap.size, 2, none⟩)), (fun v _ => v = Value.int .i64 m.gen), (fun v _ => v = Value.int .u64 (u (wi m.gen))), (fun v _ => v = Value.string (bs (putB (wi m.gen)))), (fun v _ => v = Value.string s0), (fun v _ => v = Value.string s1), (fun v _ => v = Value.pointer (some ⟨w.heap.size, 3, none⟩)), (fun v _ => v = Value.int .i64 m.seq), (fun v _ => v = Value.int .u64 (u (wi m.seq))), (fun v _ => v = Value.string (bs (putB (wi m.seq)))), (fun v _ => v = Value.string s2), (fun v _ => v = Value.pointer (some ⟨w.heap.size, 4, none⟩)), (fun v _ => v = Value.int .i64 m.epoch), (fun v _ => v = Value.int .u64 (u (wi m.epoch))), (fun v _ => v = Value.string (bs (putB (wi m.epoch)))), (fun v _ => v = Value.string s3), (fun v _ => v = Value.pointer (some ⟨w.heap.size, 5, none⟩)), (fun v _ => v = Value.int .i64 m.value), (fun v _ => v = Value.int .u64 (u (wi m.value))), (fun v _ => v = Value.string (bs (putB (wi m.value)))), (fun v _ => v = Value.string (bs (msgB m))), (fun v _ => v = Value.string (bs (msgB m))), (fun v _ => v = Value.int .i64 0)]) (fun a b => Fr none_ a b) 39 (by as_aux_lemma => kernel_rfl) rfl rfl (by as_aux_lemma => kernel_rfl) (by as_aux_lemma => kernel_rfl) (by as_aux_lemma => kernel_rfl) (by as_aux_lemma => kernel_rfl) (gl_stable _ ?FS) ?FU ?FH ?FQ
  case FS =>
    simp only [List.forall_mem_cons]
    refine ⟨?_, ?_, ?_, ?_, ?_, ?_, ?_, ?_, ?_, ?_, ?_, ?_, ?_, ?_, ?_, ?_, ?_, ?_, ?_, ?_, ?_, ?_, ?_, ?_, ?_, ?_, ?_, ?_, ?_, ?_, ?_, ?_, ?_, ?_, fun g hg => by cases hg⟩
    all_goals (intro v w w' hs h; first | exact h | (exact h.kept hs (fun _ _ f => f)))
  case FU => exact (Fr.refl none_ w1).drew
  case FH =>
    refine ⟨?_, ?_, ?_, ?_, ?_, ?_, ?_, ?_, ?_, ?_, ?_, ?_, ?_, ?_, ?_, ?_, ?_, ?_, ?_, ?_, ?_, ?_, ?_, ?_, ?_, ?_, ?_, ?_, ?_, ?_, ?_, ?_, ?_, ?_, trivial⟩
    · intro ho aF wF hU hF
      have e1 : aF.eval (.tmp 1) = Value.pointer (some ⟨w.heap.size, 0, none⟩) := hF.out 1 (by kernel_rfl)
      refine flow_see ho rfl (fun _ _ h => by cases h) ⟨#[undef, (Value.pointer (some ⟨w.heap.size, 0, none⟩)), undef, undef, undef, undef, undef, undef], []⟩ (by simp only [Op.operands, Call.operands]; simp; try simp only [e1] ; try (repeat' (first | refine ⟨?_, ?_⟩ | rfl))) (v := Value.pointer (some ⟨w.heap.size, 0, none⟩)) ?_ hU ?_ (hSr wF)
      · (go_simp <;> with_reducible rfl)
      · exact rfl
    · intro ho aF wF hU hF
      obtain ⟨v0, g0, e7⟩ := hF.at_ 0 (by kernel_rfl) rfl rfl
      change (fun v _ => v = Value.pointer (some ⟨w.heap.size, 0, none⟩)) v0 wF at g0
      replace e7 := e7.trans g0
      refine flow_see ho rfl (fun _ _ h => by cases h) ⟨#[undef, undef, undef, undef, undef, undef, undef, (Value.pointer (some ⟨w.heap.size, 0, none⟩)), undef], []⟩ (by simp only [Op.operands, Call.operands]; simp; try simp only [e7] ; try (repeat' (first | refine ⟨?_, ?_⟩ | rfl))) (v := Value.int .i64 m.kind) ?_ hU ?_ (hSr wF)
      · (obtain ⟨a0, a1, a2, a3, a4, a5, a6⟩ := HK wF hU; go_simp)
      · exact rfl
    · intro ho aF wF hU hF
      obtain ⟨v1, g1, e8⟩ := hF.at_ 1 (by kernel_rfl) rfl rfl
      change (fun v _ => v = Value.int .i64 m.kind) v1 wF at g1
      replace e8 := e8.trans g1
      refine flow_see ho rfl (fun _ _ h => by cases h) ⟨#[undef, undef, undef, undef, undef, undef, undef, undef, (Value.int .i64 m.kind), undef], []⟩ (by simp only [Op.operands, Call.operands]; simp; try simp only [e8] ; try (repeat' (first | refine ⟨?_, ?_⟩ | rfl))) (v := Value.int .u8 (v8 (lo (wi m.kind)))) ?_ hU ?_ (hSr wF)
      · (go_simp <;> with_reducible rfl)
      · exact rfl
    · intro ho aF wF hU hF
      have e1 : aF.eval (.tmp 1) = Value.pointer (some ⟨w.heap.size, 0, none⟩) := hF.out 1 (by kernel_rfl)
      refine flow_see ho rfl (fun _ _ h => by cases h) ⟨#[undef, (Value.pointer (some ⟨w.heap.size, 0, none⟩)), undef, undef, undef, undef, undef, undef, undef, undef, undef], []⟩ (by simp only [Op.operands, Call.operands]; simp; try simp only [e1] ; try (repeat' (first | refine ⟨?_, ?_⟩ | rfl))) (v := Value.pointer (some ⟨w.heap.size, 1, none⟩)) ?_ hU ?_ (hSr wF)
      · (go_simp <;> with_reducible rfl)
      · exact rfl
    · intro ho aF wF hU hF
      obtain ⟨v3, g3, e10⟩ := hF.at_ 3 (by kernel_rfl) rfl rfl
      change (fun v _ => v = Value.pointer (some ⟨w.heap.size, 1, none⟩)) v3 wF at g3
      replace e10 := e10.trans g3
      refine flow_see ho rfl (fun _ _ h => by cases h) ⟨#[undef, undef, undef, undef, undef, undef, undef, undef, undef, undef, (Value.pointer (some ⟨w.heap.size, 1, none⟩)), undef], []⟩ (by simp only [Op.operands, Call.operands]; simp; try simp only [e10] ; try (repeat' (first | refine ⟨?_, ?_⟩ | rfl))) (v := Value.int .i64 m.who) ?_ hU ?_ (hSr wF)
      · (obtain ⟨a0, a1, a2, a3, a4, a5, a6⟩ := HK wF hU; go_simp)
      · exact rfl
    · intro ho aF wF hU hF
      obtain ⟨v4, g4, e11⟩ := hF.at_ 4 (by kernel_rfl) rfl rfl
      change (fun v _ => v = Value.int .i64 m.who) v4 wF at g4
      replace e11 := e11.trans g4
      refine flow_see ho rfl (fun _ _ h => by cases h) ⟨#[undef, undef, undef, undef, undef, undef, undef, undef, undef, undef, undef, (Value.int .i64 m.who), undef], []⟩ (by simp only [Op.operands, Call.operands]; simp; try simp only [e11] ; try (repeat' (first | refine ⟨?_, ?_⟩ | rfl))) (v := Value.int .u8 (v8 (lo (wi m.who)))) ?_ hU ?_ (hSr wF)
      · (go_simp <;> with_reducible rfl)
      · exact rfl
    · intro ho aF wF hU hF
      have e1 : aF.eval (.tmp 1) = Value.pointer (some ⟨w.heap.size, 0, none⟩) := hF.out 1 (by kernel_rfl)
      refine flow_see ho rfl (fun _ _ h => by cases h) ⟨#[undef, (Value.pointer (some ⟨w.heap.size, 0, none⟩)), undef, undef, undef, undef, undef, undef, undef, undef, undef, undef, undef, undef], []⟩ (by simp only [Op.operands, Call.operands]; simp; try simp only [e1] ; try (repeat' (first | refine ⟨?_, ?_⟩ | rfl))) (v := Value.pointer (some ⟨w.heap.size, 6, none⟩)) ?_ hU ?_ (hSr wF)
      · (go_simp <;> with_reducible rfl)
      · exact rfl
    · intro ho aF wF hU hF
      obtain ⟨v6, g6, e13⟩ := hF.at_ 6 (by kernel_rfl) rfl rfl
      change (fun v _ => v = Value.pointer (some ⟨w.heap.size, 6, none⟩)) v6 wF at g6
      replace e13 := e13.trans g6
      refine flow_see ho rfl (fun _ _ h => by cases h) ⟨#[undef, undef, undef, undef, undef, undef, undef, undef, undef, undef, undef, undef, undef, (Value.pointer (some ⟨w.heap.size, 6, none⟩)), undef], []⟩ (by simp only [Op.operands, Call.operands]; simp; try simp only [e13] ; try (repeat' (first | refine ⟨?_, ?_⟩ | rfl))) (v := Value.int .i64 m.metric) ?_ hU ?_ (hSr wF)
      · (obtain ⟨a0, a1, a2, a3, a4, a5, a6⟩ := HK wF hU; go_simp)
      · exact rfl
    · intro ho aF wF hU hF
      obtain ⟨v7, g7, e14⟩ := hF.at_ 7 (by kernel_rfl) rfl rfl
      change (fun v _ => v = Value.int .i64 m.metric) v7 wF at g7
      replace e14 := e14.trans g7
      refine flow_see ho rfl (fun _ _ h => by cases h) ⟨#[undef, undef, undef, undef, undef, undef, undef, undef, undef, undef, undef, undef, undef, undef, (Value.int .i64 m.metric), undef], []⟩ (by simp only [Op.operands, Call.operands]; simp; try simp only [e14] ; try (repeat' (first | refine ⟨?_, ?_⟩ | rfl))) (v := Value.int .u8 (v8 (lo (wi m.metric)))) ?_ hU ?_ (hSr wF)
      · (go_simp <;> with_reducible rfl)
      · exact rfl
    · intro ho aF wF hU hF
      obtain ⟨v2, g2, e9⟩ := hF.at_ 2 (by kernel_rfl) rfl rfl
      change (fun v _ => v = Value.int .u8 (v8 (lo (wi m.kind)))) v2 wF at g2
      replace e9 := e9.trans g2
      obtain ⟨v5, g5, e12⟩ := hF.at_ 5 (by kernel_rfl) rfl rfl
      change (fun v _ => v = Value.int .u8 (v8 (lo (wi m.who)))) v5 wF at g5
      replace e12 := e12.trans g5
      obtain ⟨vq8, g8, e15⟩ := hF.at_ 8 (by kernel_rfl) rfl rfl
      change (fun v _ => v = Value.int .u8 (v8 (lo (wi m.metric)))) vq8 wF at g8
      replace e15 := e15.trans g8
      refine flow_at ho rfl (fun _ _ h => by cases h) ⟨#[undef, undef, undef, undef, undef, undef, undef, undef, undef, (Value.int .u8 (v8 (lo (wi m.kind)))), undef, undef, (Value.int .u8 (v8 (lo (wi m.who)))), undef, undef, (Value.int .u8 (v8 (lo (wi m.metric)))), undef], []⟩ (fun d h => by cases h; exact (by decide : (16 : Nat) < 17)) (by simp only [Op.operands, Call.operands]; simp; try simp only [e9, e12, e15] ; try (repeat' (first | refine ⟨?_, ?_⟩ | rfl))) (fun K hK => ?_)
      go_simp
      have hf1 := (Fr.refl none_ wF).alloc (.cells #[bv 1, bv (lo (wi m.kind)), bv (lo (wi m.who)), bv (lo (wi m.metric))] 5)
      exact hK.out _ _ _ rfl (hU.trans hf1) (own_made wF ([1, lo (wi m.kind), lo (wi m.who), lo (wi m.metric)].map bv) 5 (by show 4 ≤ maxLen; decide) w1.heap.size hU.size) hf1
    · intro ho aF wF hU hF
      obtain ⟨v9, g9, e16⟩ := hF.at_ 9 (by kernel_rfl) rfl rfl
      change (fun v w' => Own w' w1.heap.size 5 v ([1, lo (wi m.kind), lo (wi m.who), lo (wi m.metric)].map bv)) v9 wF at g9
      try dsimp only at g9
      refine flow_at ho rfl (fun _ _ h => by cases h) ⟨#[undef, undef, undef, undef, undef, undef, undef, undef, undef, undef, undef, undef, undef, undef, undef, undef, (v9), undef], []⟩ (fun d h => by cases h; exact (by decide : (17 : Nat) < 18)) (by simp only [Op.operands, Call.operands]; simp; try simp only [e16] ; try (repeat' (first | refine ⟨?_, ?_⟩ | rfl))) (fun K hK => ?_)
      refine wp_str _ _ 25 9 5 rfl Try.underlying25 Try.underlying5 Try.underlying9 v9 [1, lo (wi m.kind), lo (wi m.who), lo (wi m.metric)] rfl g9.rd ?_
      exact hK.out _ _ _ rfl hU rfl (hSr _)
    · intro ho aF wF hU hF
      have e1 : aF.eval (.tmp 1) = Value.pointer (some ⟨w.heap.size, 0, none⟩) := hF.out 1 (by kernel_rfl)
      refine flow_see ho rfl (fun _ _ h => by cases h) ⟨#[undef, (Value.pointer (some ⟨w.heap.size, 0, none⟩)), undef, undef, undef, undef, undef, undef, undef, undef, undef, undef, undef, undef, undef, undef, undef, undef, undef], []⟩ (by simp only [Op.operands, Call.operands]; simp; try simp only [e1] ; try (repeat' (first | refine ⟨?_, ?_⟩ | rfl))) (v := Value.pointer (some ⟨w.heap.size, 2, none⟩)) ?_ hU ?_ (hSr wF)
      · (go_simp <;> with_reducible rfl)
      · exact rfl
    · intro ho aF wF hU hF
      obtain ⟨v11, g11, e18⟩ := hF.at_ 11 (by kernel_rfl) rfl rfl
      change (fun v _ => v = Value.pointer (some ⟨w.heap.size, 2, none⟩)) v11 wF at g11
      replace e18 := e18.trans g11
      refine flow_see ho rfl (fun _ _ h => by cases h) ⟨#[undef, undef, undef, undef, undef, undef, undef, undef, undef, undef, undef, undef, undef, undef, undef, undef, undef, undef, (Value.pointer (some ⟨w.heap.size, 2, none⟩)), undef], []⟩ (by simp only [Op.operands, Call.operands]; simp; try simp only [e18] ; try (repeat' (first | refine ⟨?_, ?_⟩ | rfl))) (v := Value.int .i64 m.gen) ?_ hU ?_ (hSr wF)
      · (obtain ⟨a0, a1, a2, a3, a4, a5, a6⟩ := HK wF hU; go_simp)
      · exact rfl
    · intro ho aF wF hU hF
      obtain ⟨v12, g12, e19⟩ := hF.at_ 12 (by kernel_rfl) rfl rfl
      change (fun v _ => v = Value.int .i64 m.gen) v12 wF at g12
      replace e19 := e19.trans g12
      refine flow_see ho rfl (fun _ _ h => by cases h) ⟨#[undef, undef, undef, undef, undef, undef, undef, undef, undef, undef, undef, undef, undef, undef, undef, undef, undef, undef, undef, (Value.int .i64 m.gen), undef], []⟩ (by simp only [Op.operands, Call.operands]; simp; try simp only [e19] ; try (repeat' (first | refine ⟨?_, ?_⟩ | rfl))) (v := Value.int .u64 (u (wi m.gen))) ?_ hU ?_ (hSr wF)
      · (go_simp <;> with_reducible rfl)
      · exact rfl
    · intro ho aF wF hU hF
      obtain ⟨v13, g13, e20⟩ := hF.at_ 13 (by kernel_rfl) rfl rfl
      change (fun v _ => v = Value.int .u64 (u (wi m.gen))) v13 wF at g13
      replace e20 := e20.trans g13
      refine flow_at ho rfl (fun _ _ h => by cases h) ⟨#[undef, undef, undef, undef, undef, undef, undef, undef, undef, undef, undef, undef, undef, undef, undef, undef, undef, undef, undef, undef, (Value.int .u64 (u (wi m.gen))), undef], []⟩ (fun d h => by cases h; exact (by decide : (21 : Nat) < 22)) (by simp only [Op.operands, Call.operands]; simp; try simp only [e20] ; try (repeat' (first | refine ⟨?_, ?_⟩ | rfl))) (fun K hK => ?_)
      go_simp
      go_wp2_with (go_at_call 35; refine (rput_any (wi m.gen) _).mono ?_; rintro e w2 ⟨rfl, hf2⟩)
      exact hK.out _ w2 _ rfl (hU.trans hf2) rfl hf2
    · intro ho aF wF hU hF
      obtain ⟨v14, g14, e21⟩ := hF.at_ 14 (by kernel_rfl) rfl rfl
      change (fun v _ => v = Value.string (bs (putB (wi m.gen)))) v14 wF at g14
      replace e21 := e21.trans g14
      refine flow_see ho rfl (fun _ _ h => by cases h) ⟨#[undef, undef, undef, undef, undef, undef, undef, undef, undef, undef, undef, undef, undef, undef, undef, undef, undef, undef, undef, undef, undef, (Value.string (bs (putB (wi m.gen)))), undef], []⟩ (by simp only [Op.operands, Call.operands]; simp; try simp only [e21] ; try (repeat' (first | refine ⟨?_, ?_⟩ | rfl))) (v := Value.string s0) ?_ hU ?_ (hSr wF)
      · (have hz := hsz (wi m.gen); go_simp)
      · exact rfl
    · intro ho aF wF hU hF
      obtain ⟨v10, g10, e17⟩ := hF.at_ 10 (by kernel_rfl) rfl rfl
      change (fun v _ => v = Value.string (bs [1, lo (wi m.kind), lo (wi m.who), lo (wi m.metric)])) v10 wF at g10
      replace e17 := e17.trans g10
      obtain ⟨v15, g15, e22⟩ := hF.at_ 15 (by kernel_rfl) rfl rfl
      change (fun v _ => v = Value.string s0) v15 wF at g15
      replace e22 := e22.trans g15
      refine flow_see ho rfl (fun _ _ h => by cases h) ⟨#[undef, undef, undef, undef, undef, undef, undef, undef, undef, undef, undef, undef, undef, undef, undef, undef, undef, (Value.string (bs [1, lo (wi m.kind), lo (wi m.who), lo (wi m.metric)])), undef, undef, undef, undef, (Value.string s0), undef], []⟩ (by simp only [Op.operands, Call.operands]; simp; try simp only [e17, e22] ; try (repeat' (first | refine ⟨?_, ?_⟩ | rfl))) (v := Value.string s1) ?_ hU ?_ (hSr wF)
      · (go_simp <;> with_reducible rfl)
      · exact rfl
    · intro ho aF wF hU hF
      have e1 : aF.eval (.tmp 1) = Value.pointer (some ⟨w.heap.size, 0, none⟩) := hF.out 1 (by kernel_rfl)
      refine flow_see ho rfl (fun _ _ h => by cases h) ⟨#[undef, (Value.pointer (some ⟨w.heap.size, 0, none⟩)), undef, undef, undef, undef, undef, undef, undef, undef, undef, undef, undef, undef, undef, undef, undef, undef, undef, undef, undef, undef, undef, undef, undef], []⟩ (by simp only [Op.operands, Call.operands]; simp; try simp only [e1] ; try (repeat' (first | refine ⟨?_, ?_⟩ | rfl))) (v := Value.pointer (some ⟨w.heap.size, 3, none⟩)) ?_ hU ?_ (hSr wF)
      · (go_simp <;> with_reducible rfl)
      · exact rfl
    · intro ho aF wF hU hF
      obtain ⟨v17, g17, e24⟩ := hF.at_ 17 (by kernel_rfl) rfl rfl
      change (fun v _ => v = Value.pointer (some ⟨w.heap.size, 3, none⟩)) v17 wF at g17
      replace e24 := e24.trans g17
      refine flow_see ho rfl (fun _ _ h => by cases h) ⟨#[undef, undef, undef, undef, undef, undef, undef, undef, undef, undef, undef, undef, undef, undef, undef, undef, undef, undef, undef, undef, undef, undef, undef, undef, (Value.pointer (some ⟨w.heap.size, 3, none⟩)), undef], []⟩ (by simp only [Op.operands, Call.operands]; simp; try simp only [e24] ; try (repeat' (first | refine ⟨?_, ?_⟩ | rfl))) (v := Value.int .i64 m.seq) ?_ hU ?_ (hSr wF)
      · (obtain ⟨a0, a1, a2, a3, a4, a5, a6⟩ := HK wF hU; go_simp)
      · exact rfl
    · intro ho aF wF hU hF
      obtain ⟨v18, g18, e25⟩ := hF.at_ 18 (by kernel_rfl) rfl rfl
      change (fun v _ => v = Value.int .i64 m.seq) v18 wF at g18
      replace e25 := e25.trans g18
      refine flow_see ho rfl (fun _ _ h => by cases h) ⟨#[undef, undef, undef, undef, undef, undef, undef, undef, undef, undef, undef, undef, undef, undef, undef, undef, undef, undef, undef, undef, undef, undef, undef, undef, undef, (Value.int .i64 m.seq), undef], []⟩ (by simp only [Op.operands, Call.operands]; simp; try simp only [e25] ; try (repeat' (first | refine ⟨?_, ?_⟩ | rfl))) (v := Value.int .u64 (u (wi m.seq))) ?_ hU ?_ (hSr wF)
      · (go_simp <;> with_reducible rfl)
      · exact rfl
    · intro ho aF wF hU hF
      obtain ⟨v19, g19, e26⟩ := hF.at_ 19 (by kernel_rfl) rfl rfl
      change (fun v _ => v = Value.int .u64 (u (wi m.seq))) v19 wF at g19
      replace e26 := e26.trans g19
      refine flow_at ho rfl (fun _ _ h => by cases h) ⟨#[undef, undef, undef, undef, undef, undef, undef, undef, undef, undef, undef, undef, undef, undef, undef, undef, undef, undef, undef, undef, undef, undef, undef, undef, undef, undef, (Value.int .u64 (u (wi m.seq))), undef], []⟩ (fun d h => by cases h; exact (by decide : (27 : Nat) < 28)) (by simp only [Op.operands, Call.operands]; simp; try simp only [e26] ; try (repeat' (first | refine ⟨?_, ?_⟩ | rfl))) (fun K hK => ?_)
      go_simp
      go_wp2_with (go_at_call 35; refine (rput_any (wi m.seq) _).mono ?_; rintro e w2 ⟨rfl, hf2⟩)
      exact hK.out _ w2 _ rfl (hU.trans hf2) rfl hf2
    · intro ho aF wF hU hF
      obtain ⟨v16, g16, e23⟩ := hF.at_ 16 (by kernel_rfl) rfl rfl
      change (fun v _ => v = Value.string s1) v16 wF at g16
      replace e23 := e23.trans g16
      obtain ⟨v20, g20, e27⟩ := hF.at_ 20 (by kernel_rfl) rfl rfl
      change (fun v _ => v = Value.string (bs (putB (wi m.seq)))) v20 wF at g20
      replace e27 := e27.trans g20
      refine flow_see ho rfl (fun _ _ h => by cases h) ⟨#[undef, undef, undef, undef, undef, undef, undef, undef, undef, undef, undef, undef, undef, undef, undef, undef, undef, undef, undef, undef, undef, undef, undef, (Value.string s1), undef, undef, undef, (Value.string (bs (putB (wi m.seq)))), undef], []⟩ (by simp only [Op.operands, Call.operands]; simp; try simp only [e23, e27] ; try (repeat' (first | refine ⟨?_, ?_⟩ | rfl))) (v := Value.string s2) ?_ hU ?_ (hSr wF)
      · (go_simp <;> with_reducible rfl)
      · exact rfl
    · intro ho aF wF hU hF
      have e1 : aF.eval (.tmp 1) = Value.pointer (some ⟨w.heap.size, 0, none⟩) := hF.out 1 (by kernel_rfl)
      refine flow_see ho rfl (fun _ _ h => by cases h) ⟨#[undef, (Value.pointer (some ⟨w.heap.size, 0, none⟩)), undef, undef, undef, undef, undef, undef, undef, undef, undef, undef, undef, undef, undef, undef, undef, undef, undef, undef, undef, undef, undef, undef, undef, undef, undef, undef, undef, undef], []⟩ (by simp only [Op.operands, Call.operands]; simp; try simp only [e1] ; try (repeat' (first | refine ⟨?_, ?_⟩ | rfl))) (v := Value.pointer (some ⟨w.heap.size, 4, none⟩)) ?_ hU ?_ (hSr wF)
      · (go_simp <;> with_reducible rfl)
      · exact rfl
    · intro ho aF wF hU hF
      obtain ⟨v22, g22, e29⟩ := hF.at_ 22 (by kernel_rfl) rfl rfl
      change (fun v _ => v = Value.pointer (some ⟨w.heap.size, 4, none⟩)) v22 wF at g22
      replace e29 := e29.trans g22
      refine flow_see ho rfl (fun _ _ h => by cases h) ⟨#[undef, undef, undef, undef, undef, undef, undef, undef, undef, undef, undef, undef, undef, undef, undef, undef, undef, undef, undef, undef, undef, undef, undef, undef, undef, undef, undef, undef, undef, (Value.pointer (some ⟨w.heap.size, 4, none⟩)), undef], []⟩ (by simp only [Op.operands, Call.operands]; simp; try simp only [e29] ; try (repeat' (first | refine ⟨?_, ?_⟩ | rfl))) (v := Value.int .i64 m.epoch) ?_ hU ?_ (hSr wF)
      · (obtain ⟨a0, a1, a2, a3, a4, a5, a6⟩ := HK wF hU; go_simp)
      · exact rfl
    · intro ho aF wF hU hF
      obtain ⟨v23, g23, e30⟩ := hF.at_ 23 (by kernel_rfl) rfl rfl
      change (fun v _ => v = Value.int .i64 m.epoch) v23 wF at g23
      replace e30 := e30.trans g23
      refine flow_see ho rfl (fun _ _ h => by cases h) ⟨#[undef, undef, undef, undef, undef, undef, undef, undef, undef, undef, undef, undef, undef, undef, undef, undef, undef, undef, undef, undef, undef, undef, undef, undef, undef, undef, undef, undef, undef, undef, (Value.int .i64 m.epoch), undef], []⟩ (by simp only [Op.operands, Call.operands]; simp; try simp only [e30] ; try (repeat' (first | refine ⟨?_, ?_⟩ | rfl))) (v := Value.int .u64 (u (wi m.epoch))) ?_ hU ?_ (hSr wF)
      · (go_simp <;> with_reducible rfl)
      · exact rfl
    · intro ho aF wF hU hF
      obtain ⟨v24, g24, e31⟩ := hF.at_ 24 (by kernel_rfl) rfl rfl
      change (fun v _ => v = Value.int .u64 (u (wi m.epoch))) v24 wF at g24
      replace e31 := e31.trans g24
      refine flow_at ho rfl (fun _ _ h => by cases h) ⟨#[undef, undef, undef, undef, undef, undef, undef, undef, undef, undef, undef, undef, undef, undef, undef, undef, undef, undef, undef, undef, undef, undef, undef, undef, undef, undef, undef, undef, undef, undef, undef, (Value.int .u64 (u (wi m.epoch))), undef], []⟩ (fun d h => by cases h; exact (by decide : (32 : Nat) < 33)) (by simp only [Op.operands, Call.operands]; simp; try simp only [e31] ; try (repeat' (first | refine ⟨?_, ?_⟩ | rfl))) (fun K hK => ?_)
      go_simp
      go_wp2_with (go_at_call 35; refine (rput_any (wi m.epoch) _).mono ?_; rintro e w2 ⟨rfl, hf2⟩)
      exact hK.out _ w2 _ rfl (hU.trans hf2) rfl hf2
    · intro ho aF wF hU hF
      obtain ⟨v21, g21, e28⟩ := hF.at_ 21 (by kernel_rfl) rfl rfl
      change (fun v _ => v = Value.string s2) v21 wF at g21
      replace e28 := e28.trans g21
      obtain ⟨v25, g25, e32⟩ := hF.at_ 25 (by kernel_rfl) rfl rfl
      change (fun v _ => v = Value.string (bs (putB (wi m.epoch)))) v25 wF at g25
      replace e32 := e32.trans g25
      refine flow_see ho rfl (fun _ _ h => by cases h) ⟨#[undef, undef, undef, undef, undef, undef, undef, undef, undef, undef, undef, undef, undef, undef, undef, undef, undef, undef, undef, undef, undef, undef, undef, undef, undef, undef, undef, undef, (Value.string s2), undef, undef, undef, (Value.string (bs (putB (wi m.epoch)))), undef], []⟩ (by simp only [Op.operands, Call.operands]; simp; try simp only [e28, e32] ; try (repeat' (first | refine ⟨?_, ?_⟩ | rfl))) (v := Value.string s3) ?_ hU ?_ (hSr wF)
      · (go_simp <;> with_reducible rfl)
      · exact rfl
    · intro ho aF wF hU hF
      have e1 : aF.eval (.tmp 1) = Value.pointer (some ⟨w.heap.size, 0, none⟩) := hF.out 1 (by kernel_rfl)
      refine flow_see ho rfl (fun _ _ h => by cases h) ⟨#[undef, (Value.pointer (some ⟨w.heap.size, 0, none⟩)), undef, undef, undef, undef, undef, undef, undef, undef, undef, undef, undef, undef, undef, undef, undef, undef, undef, undef, undef, undef, undef, undef, undef, undef, undef, undef, undef, undef, undef, undef, undef, undef, undef], []⟩ (by simp only [Op.operands, Call.operands]; simp; try simp only [e1] ; try (repeat' (first | refine ⟨?_, ?_⟩ | rfl))) (v := Value.pointer (some ⟨w.heap.size, 5, none⟩)) ?_ hU ?_ (hSr wF)
      · (go_simp <;> with_reducible rfl)
      · exact rfl
    · intro ho aF wF hU hF
      obtain ⟨v27, g27, e34⟩ := hF.at_ 27 (by kernel_rfl) rfl rfl
      change (fun v _ => v = Value.pointer (some ⟨w.heap.size, 5, none⟩)) v27 wF at g27
      replace e34 := e34.trans g27
      refine flow_see ho rfl (fun _ _ h => by cases h) ⟨#[undef, undef, undef, undef, undef, undef, undef, undef, undef, undef, undef, undef, undef, undef, undef, undef, undef, undef, undef, undef, undef, undef, undef, undef, undef, undef, undef, undef, undef, undef, undef, undef, undef, undef, (Value.pointer (some ⟨w.heap.size, 5, none⟩)), undef], []⟩ (by simp only [Op.operands, Call.operands]; simp; try simp only [e34] ; try (repeat' (first | refine ⟨?_, ?_⟩ | rfl))) (v := Value.int .i64 m.value) ?_ hU ?_ (hSr wF)
      · (obtain ⟨a0, a1, a2, a3, a4, a5, a6⟩ := HK wF hU; go_simp)
      · exact rfl
    · intro ho aF wF hU hF
      obtain ⟨v28, g28, e35⟩ := hF.at_ 28 (by kernel_rfl) rfl rfl
      change (fun v _ => v = Value.int .i64 m.value) v28 wF at g28
      replace e35 := e35.trans g28
      refine flow_see ho rfl (fun _ _ h => by cases h) ⟨#[undef, undef, undef, undef, undef, undef, undef, undef, undef, undef, undef, undef, undef, undef, undef, undef, undef, undef, undef, undef, undef, undef, undef, undef, undef, undef, undef, undef, undef, undef, undef, undef, undef, undef, undef, (Value.int .i64 m.value), undef], []⟩ (by simp only [Op.operands, Call.operands]; simp; try simp only [e35] ; try (repeat' (first | refine ⟨?_, ?_⟩ | rfl))) (v := Value.int .u64 (u (wi m.value))) ?_ hU ?_ (hSr wF)
      · (go_simp <;> with_reducible rfl)
      · exact rfl
    · intro ho aF wF hU hF
      obtain ⟨v29, g29, e36⟩ := hF.at_ 29 (by kernel_rfl) rfl rfl
      change (fun v _ => v = Value.int .u64 (u (wi m.value))) v29 wF at g29
      replace e36 := e36.trans g29
      refine flow_at ho rfl (fun _ _ h => by cases h) ⟨#[undef, undef, undef, undef, undef, undef, undef, undef, undef, undef, undef, undef, undef, undef, undef, undef, undef, undef, undef, undef, undef, undef, undef, undef, undef, undef, undef, undef, undef, undef, undef, undef, undef, undef, undef, undef, (Value.int .u64 (u (wi m.value))), undef], []⟩ (fun d h => by cases h; exact (by decide : (37 : Nat) < 38)) (by simp only [Op.operands, Call.operands]; simp; try simp only [e36] ; try (repeat' (first | refine ⟨?_, ?_⟩ | rfl))) (fun K hK => ?_)
      go_simp
      go_wp2_with (go_at_call 35; refine (rput_any (wi m.value) _).mono ?_; rintro e w2 ⟨rfl, hf2⟩)
      exact hK.out _ w2 _ rfl (hU.trans hf2) rfl hf2
    · intro ho aF wF hU hF
      obtain ⟨v26, g26, e33⟩ := hF.at_ 26 (by kernel_rfl) rfl rfl
      change (fun v _ => v = Value.string s3) v26 wF at g26
      replace e33 := e33.trans g26
      obtain ⟨v30, g30, e37⟩ := hF.at_ 30 (by kernel_rfl) rfl rfl
      change (fun v _ => v = Value.string (bs (putB (wi m.value)))) v30 wF at g30
      replace e37 := e37.trans g30
      refine flow_see ho rfl (fun _ _ h => by cases h) ⟨#[undef, undef, undef, undef, undef, undef, undef, undef, undef, undef, undef, undef, undef, undef, undef, undef, undef, undef, undef, undef, undef, undef, undef, undef, undef, undef, undef, undef, undef, undef, undef, undef, undef, (Value.string s3), undef, undef, undef, (Value.string (bs (putB (wi m.value)))), undef], []⟩ (by simp only [Op.operands, Call.operands]; simp; try simp only [e33, e37] ; try (repeat' (first | refine ⟨?_, ?_⟩ | rfl))) (v := Value.string (bs (msgB m))) ?_ hU ?_ (hSr wF)
      · (go_simp <;> with_reducible rfl)
      · exact rfl
    · intro ho aF wF hU hF
      obtain ⟨v31, g31, e38⟩ := hF.at_ 31 (by kernel_rfl) rfl rfl
      change (fun v _ => v = Value.string (bs (msgB m))) v31 wF at g31
      replace e38 := e38.trans g31
      refine flow_see ho rfl (fun _ _ h => by cases h) ⟨#[undef, undef, undef, undef, undef, undef, undef, undef, undef, undef, undef, undef, undef, undef, undef, undef, undef, undef, undef, undef, undef, undef, undef, undef, undef, undef, undef, undef, undef, undef, undef, undef, undef, undef, undef, undef, undef, undef, (Value.string (bs (msgB m)))], []⟩ (by simp only [Op.operands, Call.operands]; simp; try simp only [e38] ; try (repeat' (first | refine ⟨?_, ?_⟩ | rfl))) (v := Value.string (bs (msgB m))) ?_ hU ?_ (hSr wF)
      · (go_simp <;> with_reducible rfl)
      · exact rfl
    · intro ho aF wF hU hF
      refine flow_see ho rfl (fun _ _ h => by cases h) ⟨#[undef, undef, undef, undef], []⟩ (by simp only [Op.operands, Call.operands]; simp; try (repeat' (first | refine ⟨?_, ?_⟩ | rfl))) (v := Value.int .i64 0) ?_ hU ?_ (hSr wF)
      · (go_simp <;> with_reducible rfl)
      · exact rfl
  intro g wE hUE hGE
  have gE0 := hGE 0 (by decide)
  change (fun v _ => v = Value.pointer (some ⟨w.heap.size, 0, none⟩)) (g 0) wE at gE0
  have gE1 := hGE 1 (by decide)
  change (fun v _ => v = Value.int .i64 m.kind) (g 1) wE at gE1
  have gE2 := hGE 2 (by decide)
  change (fun v _ => v = Value.int .u8 (v8 (lo (wi m.kind)))) (g 2) wE at gE2
  have gE3 := hGE 3 (by decide)
  change (fun v _ => v = Value.pointer (some ⟨w.heap.size, 1, none⟩)) (g 3) wE at gE3
  have gE4 := hGE 4 (by decide)
  change (fun v _ => v = Value.int .i64 m.who) (g 4) wE at gE4
  have gE5 := hGE 5 (by decide)
  change (fun v _ => v = Value.int .u8 (v8 (lo (wi m.who)))) (g 5) wE at gE5
  have gE6 := hGE 6 (by decide)
  change (fun v _ => v = Value.pointer (some ⟨w.heap.size, 6, none⟩)) (g 6) wE at gE6
  have gE7 := hGE 7 (by decide)
  change (fun v _ => v = Value.int .i64 m.metric) (g 7) wE at gE7
  have gE8 := hGE 8 (by decide)
  change (fun v _ => v = Value.int .u8 (v8 (lo (wi m.metric)))) (g 8) wE at gE8
  have gE9 := hGE 9 (by decide)
  change (fun v w' => Own w' w1.heap.size 5 v ([1, lo (wi m.kind), lo (wi m.who), lo (wi m.metric)].map bv)) (g 9) wE at gE9
  try dsimp only at gE9
  have gE10 := hGE 10 (by decide)
  change (fun v _ => v = Value.string (bs [1, lo (wi m.kind), lo (wi m.who), lo (wi m.metric)])) (g 10) wE at gE10
  have gE11 := hGE 11 (by decide)
  change (fun v _ => v = Value.pointer (some ⟨w.heap.size, 2, none⟩)) (g 11) wE at gE11
  have gE12 := hGE 12 (by decide)
  change (fun v _ => v = Value.int .i64 m.gen) (g 12) wE at gE12
  have gE13 := hGE 13 (by decide)
  change (fun v _ => v = Value.int .u64 (u (wi m.gen))) (g 13) wE at gE13
  have gE14 := hGE 14 (by decide)
  change (fun v _ => v = Value.string (bs (putB (wi m.gen)))) (g 14) wE at gE14
  have gE15 := hGE 15 (by decide)
  change (fun v _ => v = Value.string s0) (g 15) wE at gE15
  have gE16 := hGE 16 (by decide)
  change (fun v _ => v = Value.string s1) (g 16) wE at gE16
  have gE17 := hGE 17 (by decide)
  change (fun v _ => v = Value.pointer (some ⟨w.heap.size, 3, none⟩)) (g 17) wE at gE17
  have gE18 := hGE 18 (by decide)
  change (fun v _ => v = Value.int .i64 m.seq) (g 18) wE at gE18
  have gE19 := hGE 19 (by decide)
  change (fun v _ => v = Value.int .u64 (u (wi m.seq))) (g 19) wE at gE19
  have gE20 := hGE 20 (by decide)
  change (fun v _ => v = Value.string (bs (putB (wi m.seq)))) (g 20) wE at gE20
  have gE21 := hGE 21 (by decide)
  change (fun v _ => v = Value.string s2) (g 21) wE at gE21
  have gE22 := hGE 22 (by decide)
  change (fun v _ => v = Value.pointer (some ⟨w.heap.size, 4, none⟩)) (g 22) wE at gE22
  have gE23 := hGE 23 (by decide)
  change (fun v _ => v = Value.int .i64 m.epoch) (g 23) wE at gE23
  have gE24 := hGE 24 (by decide)
  change (fun v _ => v = Value.int .u64 (u (wi m.epoch))) (g 24) wE at gE24
  have gE25 := hGE 25 (by decide)
  change (fun v _ => v = Value.string (bs (putB (wi m.epoch)))) (g 25) wE at gE25
  have gE26 := hGE 26 (by decide)
  change (fun v _ => v = Value.string s3) (g 26) wE at gE26
  have gE27 := hGE 27 (by decide)
  change (fun v _ => v = Value.pointer (some ⟨w.heap.size, 5, none⟩)) (g 27) wE at gE27
  have gE28 := hGE 28 (by decide)
  change (fun v _ => v = Value.int .i64 m.value) (g 28) wE at gE28
  have gE29 := hGE 29 (by decide)
  change (fun v _ => v = Value.int .u64 (u (wi m.value))) (g 29) wE at gE29
  have gE30 := hGE 30 (by decide)
  change (fun v _ => v = Value.string (bs (putB (wi m.value)))) (g 30) wE at gE30
  have gE31 := hGE 31 (by decide)
  change (fun v _ => v = Value.string (bs (msgB m))) (g 31) wE at gE31
  have gE32 := hGE 32 (by decide)
  change (fun v _ => v = Value.string (bs (msgB m))) (g 32) wE at gE32
  have gE33 := hGE 33 (by decide)
  change (fun v _ => v = Value.int .i64 0) (g 33) wE at gE33
  simp only [fillA, Act.put, List.setIfInBounds_toArray, List.set_cons_zero, List.set_cons_succ, gE0, gE1, gE2, gE3, gE4, gE5, gE6, gE7, gE8, gE10, gE11, gE12, gE13, gE14, gE15, gE16, gE17, gE18, gE19, gE20, gE21, gE22, gE23, gE24, gE25, gE26, gE27, gE28, gE29, gE30, gE31, gE32, gE33]
  clear hGE gE0 gE1 gE2 gE3 gE4 gE5 gE6 gE7 gE8 gE10 gE11 gE12 gE13 gE14 gE15 gE16 gE17 gE18 gE19 gE20 gE21 gE22 gE23 gE24 gE25 gE26 gE27 gE28 gE29 gE30 gE31 gE32 gE33
  generalize g 9 = vE9 at *
  go_wp2
  exact bodyPost_ret (v := .tuple #[.string (bs (msgB m)), .int .i64 0]) (by simp [results, Try.results54, go_sem]) rfl ⟨rfl, HF1.out.trans hUE⟩
end Go.Proofs.Ytandenkoejbloaa
