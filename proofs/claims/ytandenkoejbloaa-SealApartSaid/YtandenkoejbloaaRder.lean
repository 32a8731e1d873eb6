/- Walks of the document's Derive, Root, Of. -/
import Derived.Test.YtandenkoejbloaaRoot
namespace Go.Proofs.Ytandenkoejbloaa
open Go Go.RowKit

set_option maxRecDepth 100000 in
set_option maxHeartbeats 6400000 in
theorem rderive_any (k : W × W) (l : List UInt8) (n : W) (w : World) (hl : l.length ≤ 140737488350000) :
    Calls Try.prog 46 #[keyv k, .string (bs l), .int .u64 (u n)] w fun e w' => e = .returned (keyv (deriveW k l n)) ∧ Fr none_ w w' := by
  unfold keyv
  have hK := (Blk.new w #[.int .u64 (u k.1), .int .u64 (u k.2)] 56).alloc (.cells #[.int .u64 0, .int .u64 0] 56)
  have hR := Blk.new (w.alloc (.cells #[.int .u64 (u k.1), .int .u64 (u k.2)] 56)) #[.int .u64 0, .int .u64 0] 56
  rw [World.size_alloc] at hR
  have hF := ((Fr.refl none_ w).alloc (.cells #[.int .u64 (u k.1), .int .u64 (u k.2)] 56)).alloc (.cells #[.int .u64 0, .int .u64 0] 56)
  have e1 : sumW k (l ++ [1] ++ putB n) = (deriveW k l n).1 := rfl
  have e2 : sumW k (l ++ [2] ++ putB n) = (deriveW k l n).2 := rfl
  have HS1 : ∀ wa : World, Calls Try.prog 33 #[keyv k, .string (bs (l ++ [1] ++ putB n))] wa fun e w' => e = .returned (.int .u64 (u (deriveW k l n).1)) ∧ Fr none_ wa w' := fun wa => by rw [← e1]; exact rsum_any k _ wa (by simp [putB_length]; omega)
  have HS2 : ∀ wa : World, Calls Try.prog 33 #[keyv k, .string (bs (l ++ [2] ++ putB n))] wa fun e w' => e = .returned (.int .u64 (u (deriveW k l n).2)) ∧ Fr none_ wa w' := fun wa => by rw [← e2]; exact rsum_any k _ wa (by simp [putB_length]; omega)
  clear e1 e2
  have hadd1 : Op.stringOp .add (bs l) (bs [1]) = pure (.string (bs (l ++ [1]))) := str_add _ _ (by simp; omega)
  have hadd2 : Op.stringOp .add (bs l) (bs [2]) = pure (.string (bs (l ++ [2]))) := str_add _ _ (by simp; omega)
  have hadd3 : Op.stringOp .add (bs (l ++ [1])) (bs (putB n)) = pure (.string (bs (l ++ [1] ++ putB n))) := str_add _ _ (by simp [putB_length]; omega)
  have hadd4 : Op.stringOp .add (bs (l ++ [2])) (bs (putB n)) = pure (.string (bs (l ++ [2] ++ putB n))) := str_add _ _ (by simp [putB_length]; omega)
  have hkk : ∃ kk, kk = deriveW k l n := ⟨_, rfl⟩
  generalize bs (l ++ [1] ++ putB n) = sA at *
  generalize bs (l ++ [2] ++ putB n) = sB at *
  generalize bs (l ++ [1]) = sC at *
  generalize bs (l ++ [2]) = sD at *
  unfold keyv at HS1 HS2
  go_enter Try.func46, Try.ntmps46
  go_wp2_with fail
  generalize (w.alloc (.cells #[.int .u64 (u k.1), .int .u64 (u k.2)] 56)).alloc (.cells #[.int .u64 0, .int .u64 0] 56) = wr at *
  have hob := hR.lt
  have HKc := Lib.hid (show wr.cell? ⟨w.heap.size, 0, none⟩ = some (.int .u64 (u k.1)) ∧ wr.cell? ⟨w.heap.size, 1, none⟩ = some (.int .u64 (u k.2)) from ⟨hK.cell_of rfl, hK.cell_of rfl⟩)
  have hUn : ∀ a b : World, (Fr (fun i => i = w.heap.size + 1) wr a ∧ (Blk a (w.heap.size + 1) 56 [.int .u64 0, .int .u64 0] ∨ Blk a (w.heap.size + 1) 56 [.int .u64 (u (deriveW k l n).1), .int .u64 (u (deriveW k l n).2)])) → Fr none_ a b → (Fr (fun i => i = w.heap.size + 1) wr b ∧ (Blk b (w.heap.size + 1) 56 [.int .u64 0, .int .u64 0] ∨ Blk b (w.heap.size + 1) 56 [.int .u64 (u (deriveW k l n).1), .int .u64 (u (deriveW k l n).2)])) :=
    fun a b hu hf => ⟨hu.1.step hf (fun _ _ f => f.elim), hu.2.imp (fun h => h.kept hf (fun f => f)) (fun h => h.kept hf (fun f => f))⟩
  have hSn : ∀ a b : World, Fr none_ a b → (Fr (fun i => i = w.heap.size + 1) a b ∧ (Blk a (w.heap.size + 1) 56 [.int .u64 (u (deriveW k l n).1), .int .u64 (u (deriveW k l n).2)] → Blk b (w.heap.size + 1) 56 [.int .u64 (u (deriveW k l n).1), .int .u64 (u (deriveW k l n).2)])) :=
    fun a b hf => ⟨hf.mono (fun _ _ f => f.elim), fun h => h.kept hf (fun f => f)⟩
  have hSr : ∀ a : World, (Fr (fun i => i = w.heap.size + 1) a a ∧ (Blk a (w.heap.size + 1) 56 [.int .u64 (u (deriveW k l n).1), .int .u64 (u (deriveW k l n).2)] → Blk a (w.heap.size + 1) 56 [.int .u64 (u (deriveW k l n).1), .int .u64 (u (deriveW k l n).2)])) := fun a => ⟨Fr.refl _ a, fun h => h⟩
  refine region_flow [0, 0, 0, 4, 10, 0, 32, 80, 193, 0, 0, 0, 2048, 5120, 0, 16640, 40960, 98816, 131328, 524287] [0, 0, 0, 4, 14, 0, 32, 126, 255, 0, 0, 0, 2048, 7168, 0, 16895, 65023, 131071, 262143, 524287] (fun w' => Fr (fun i => i = w.heap.size + 1) wr w' ∧ (Blk w' (w.heap.size + 1) 56 [.int .u64 0, .int .u64 0] ∨ Blk w' (w.heap.size + 1) 56 [.int .u64 (u (deriveW k l n).1), .int .u64 (u (deriveW k l n).2)])) (gl [(fun v _ => v = Value.agg #[.int .u64 (u k.1), .int .u64 (u k.2)]), (fun v _ => v = Value.string (bs l)), (fun v w' => Own w' wr.heap.size 5 v ([1].map bv)), (fun v _ => v = Value.string (bs [1])), (fun v _ => v = Value.string sC), (fun v _ => v = Value.int .u64 (u n)), (fun v _ => v = Value.string (bs (putB n))), (fun v _ => v = Value.string sA), (fun v _ => v = Value.int .u64 (u (deriveW k l n).1)), (fun v _ => v = Value.agg #[.int .u64 (u k.1), .int .u64 (u k.2)]), (fun v _ => v = Value.string (bs l)), (fun v w' => Own w' wr.heap.size 5 v ([2].map bv)), (fun v _ => v = Value.string (bs [2])), (fun v _ => v = Value.string sD), (fun v _ => v = Value.int .u64 (u n)), (fun v _ => v = Value.string (bs (putB n))), (fun v _ => v = Value.string sB), (fun v _ => v = Value.int .u64 (u (deriveW k l n).2)), (fun v _ => v = Value.agg #[.int .u64 (u (deriveW k l n).1), .int .u64 (u (deriveW k l n).2)]), (fun _ w' => Blk w' (w.heap.size + 1) 56 [.int .u64 (u (deriveW k l n).1), .int .u64 (u (deriveW k l n).2)])]) (fun a b => Fr (fun i => i = w.heap.size + 1) a b ∧ (Blk a (w.heap.size + 1) 56 [.int .u64 (u (deriveW k l n).1), .int .u64 (u (deriveW k l n).2)] → Blk b (w.heap.size + 1) 56 [.int .u64 (u (deriveW k l n).1), .int .u64 (u (deriveW k l n).2)])) 26 (by as_aux_lemma => kernel_rfl) rfl rfl (by as_aux_lemma => kernel_rfl) (by as_aux_lemma => kernel_rfl) (by as_aux_lemma => kernel_rfl) (by as_aux_lemma => kernel_rfl) (gl_stable _ ?FS) ?FU ?FH ?FQ
  case FS =>
    simp only [List.forall_mem_cons]
    refine ⟨?_, ?_, ?_, ?_, ?_, ?_, ?_, ?_, ?_, ?_, ?_, ?_, ?_, ?_, ?_, ?_, ?_, ?_, ?_, ?_, fun g hg => by cases hg⟩
    all_goals (intro v w w' hs h; first | exact h | (first | exact h.keptB hs.1 (fun k e => by rw [e]; exact hob) | exact hs.2 h))
  case FU => exact ⟨(Fr.refl _ wr).drew, .inl hR.drew⟩
  case FH =>
    refine ⟨?_, ?_, ?_, ?_, ?_, ?_, ?_, ?_, ?_, ?_, ?_, ?_, ?_, ?_, ?_, ?_, ?_, ?_, ?_, ?_, trivial⟩
    · intro ho aF wF hU hF
      have e3 : aF.eval (.tmp 3) = Value.pointer (some ⟨w.heap.size, 0, none⟩) := hF.out 3 (by kernel_rfl)
      refine flow_see ho rfl (fun _ _ h => by cases h) ⟨#[undef, undef, undef, (Value.pointer (some ⟨w.heap.size, 0, none⟩)), undef, undef, undef, undef], []⟩ (by simp only [Op.operands, Call.operands]; simp; try simp only [e3] ; try (repeat' (first | refine ⟨?_, ?_⟩ | rfl))) (v := Value.agg #[.int .u64 (u k.1), .int .u64 (u k.2)]) ?_ hU ?_ (hSr wF)
      · (obtain ⟨hf, _⟩ := hU; have c0 := (hf.cell (p := ⟨w.heap.size, 0, none⟩) (by show w.heap.size < _; omega) (fun e => by have e : w.heap.size = w.heap.size + 1 := e; omega)).trans HKc.out.1; have c1 := (hf.cell (p := ⟨w.heap.size, 1, none⟩) (by show w.heap.size < _; omega) (fun e => by have e : w.heap.size = w.heap.size + 1 := e; omega)).trans HKc.out.2; go_simp)
      · exact rfl
    · intro ho aF wF hU hF
      have e1 : aF.eval (.tmp 1) = Value.string (bs l) := hF.out 1 (by kernel_rfl)
      refine flow_see ho rfl (fun _ _ h => by cases h) ⟨#[undef, (Value.string (bs l)), undef, undef, undef, undef, undef, undef, undef], []⟩ (by simp only [Op.operands, Call.operands]; simp; try simp only [e1] ; try (repeat' (first | refine ⟨?_, ?_⟩ | rfl))) (v := Value.string (bs l)) ?_ hU ?_ (hSr wF)
      · (go_simp <;> with_reducible rfl)
      · exact rfl
    · intro ho aF wF hU hF
      refine flow_at ho rfl (fun _ _ h => by cases h) ⟨#[undef, undef, undef, undef, undef, undef, undef, undef, undef, undef], []⟩ (fun d h => by cases h; exact (by decide : (9 : Nat) < 10)) (by simp only [Op.operands, Call.operands]; simp; try (repeat' (first | refine ⟨?_, ?_⟩ | rfl))) (fun K hK => ?_)
      go_simp
      have hf1 := (Fr.refl none_ wF).alloc (.cells #[bv 1] 5)
      exact hK.out _ _ _ rfl (hUn _ _ hU hf1) (own_made wF [bv 1] 5 (by show 1 ≤ maxLen; decide) wr.heap.size hU.1.size) (hSn _ _ hf1)
    · intro ho aF wF hU hF
      obtain ⟨v2, g2, e9⟩ := hF.at_ 2 (by kernel_rfl) rfl rfl
      change (fun v w' => Own w' wr.heap.size 5 v ([1].map bv)) v2 wF at g2
      try dsimp only at g2
      refine flow_at ho rfl (fun _ _ h => by cases h) ⟨#[undef, undef, undef, undef, undef, undef, undef, undef, undef, (v2), undef], []⟩ (fun d h => by cases h; exact (by decide : (10 : Nat) < 11)) (by simp only [Op.operands, Call.operands]; simp; try simp only [e9] ; try (repeat' (first | refine ⟨?_, ?_⟩ | rfl))) (fun K hK => ?_)
      refine wp_str _ _ 25 9 5 rfl Try.underlying25 Try.underlying5 Try.underlying9 v2 [1] rfl g2.rd ?_
      exact hK.out _ _ _ rfl hU rfl (hSr _)
    · intro ho aF wF hU hF
      obtain ⟨v1, g1, e8⟩ := hF.at_ 1 (by kernel_rfl) rfl rfl
      change (fun v _ => v = Value.string (bs l)) v1 wF at g1
      replace e8 := e8.trans g1
      obtain ⟨v3, g3, e10⟩ := hF.at_ 3 (by kernel_rfl) rfl rfl
      change (fun v _ => v = Value.string (bs [1])) v3 wF at g3
      replace e10 := e10.trans g3
      refine flow_see ho rfl (fun _ _ h => by cases h) ⟨#[undef, undef, undef, undef, undef, undef, undef, undef, (Value.string (bs l)), undef, (Value.string (bs [1])), undef], []⟩ (by simp only [Op.operands, Call.operands]; simp; try simp only [e8, e10] ; try (repeat' (first | refine ⟨?_, ?_⟩ | rfl))) (v := Value.string sC) ?_ hU ?_ (hSr wF)
      · (go_simp <;> with_reducible rfl)
      · exact rfl
    · intro ho aF wF hU hF
      have e2 : aF.eval (.tmp 2) = Value.int .u64 (u n) := hF.out 2 (by kernel_rfl)
      refine flow_see ho rfl (fun _ _ h => by cases h) ⟨#[undef, undef, (Value.int .u64 (u n)), undef, undef, undef, undef, undef, undef, undef, undef, undef, undef], []⟩ (by simp only [Op.operands, Call.operands]; simp; try simp only [e2] ; try (repeat' (first | refine ⟨?_, ?_⟩ | rfl))) (v := Value.int .u64 (u n)) ?_ hU ?_ (hSr wF)
      · (go_simp <;> with_reducible rfl)
      · exact rfl
    · intro ho aF wF hU hF
      obtain ⟨v5, g5, e12⟩ := hF.at_ 5 (by kernel_rfl) rfl rfl
      change (fun v _ => v = Value.int .u64 (u n)) v5 wF at g5
      replace e12 := e12.trans g5
      refine flow_at ho rfl (fun _ _ h => by cases h) ⟨#[undef, undef, undef, undef, undef, undef, undef, undef, undef, undef, undef, undef, (Value.int .u64 (u n)), undef], []⟩ (fun d h => by cases h; exact (by decide : (13 : Nat) < 14)) (by simp only [Op.operands, Call.operands]; simp; try simp only [e12] ; try (repeat' (first | refine ⟨?_, ?_⟩ | rfl))) (fun K hK => ?_)
      go_simp
      go_wp2_with (go_at_call 35; refine (rput_any n _).mono ?_; rintro e w1 ⟨rfl, hf1⟩)
      exact hK.out _ w1 _ rfl (hUn _ _ hU hf1) rfl (hSn _ _ hf1)
    · intro ho aF wF hU hF
      obtain ⟨v4, g4, e11⟩ := hF.at_ 4 (by kernel_rfl) rfl rfl
      change (fun v _ => v = Value.string sC) v4 wF at g4
      replace e11 := e11.trans g4
      obtain ⟨v6, g6, e13⟩ := hF.at_ 6 (by kernel_rfl) rfl rfl
      change (fun v _ => v = Value.string (bs (putB n))) v6 wF at g6
      replace e13 := e13.trans g6
      refine flow_see ho rfl (fun _ _ h => by cases h) ⟨#[undef, undef, undef, undef, undef, undef, undef, undef, undef, undef, undef, (Value.string sC), undef, (Value.string (bs (putB n))), undef], []⟩ (by simp only [Op.operands, Call.operands]; simp; try simp only [e11, e13] ; try (repeat' (first | refine ⟨?_, ?_⟩ | rfl))) (v := Value.string sA) ?_ hU ?_ (hSr wF)
      · (go_simp <;> with_reducible rfl)
      · exact rfl
    · intro ho aF wF hU hF
      obtain ⟨v0, g0, e7⟩ := hF.at_ 0 (by kernel_rfl) rfl rfl
      change (fun v _ => v = Value.agg #[.int .u64 (u k.1), .int .u64 (u k.2)]) v0 wF at g0
      replace e7 := e7.trans g0
      obtain ⟨v7, g7, e14⟩ := hF.at_ 7 (by kernel_rfl) rfl rfl
      change (fun v _ => v = Value.string sA) v7 wF at g7
      replace e14 := e14.trans g7
      refine flow_at ho rfl (fun _ _ h => by cases h) ⟨#[undef, undef, undef, undef, undef, undef, undef, (Value.agg #[.int .u64 (u k.1), .int .u64 (u k.2)]), undef, undef, undef, undef, undef, undef, (Value.string sA), undef], []⟩ (fun d h => by cases h; exact (by decide : (15 : Nat) < 16)) (by simp only [Op.operands, Call.operands]; simp; try simp only [e7, e14] ; try (repeat' (first | refine ⟨?_, ?_⟩ | rfl))) (fun K hK => ?_)
      go_simp
      go_wp2_with (go_at_call 33; refine (HS1 _).mono ?_; rintro e w1 ⟨rfl, hf1⟩)
      exact hK.out _ w1 _ rfl (hUn _ _ hU hf1) rfl (hSn _ _ hf1)
    · intro ho aF wF hU hF
      have e3 : aF.eval (.tmp 3) = Value.pointer (some ⟨w.heap.size, 0, none⟩) := hF.out 3 (by kernel_rfl)
      refine flow_see ho rfl (fun _ _ h => by cases h) ⟨#[undef, undef, undef, (Value.pointer (some ⟨w.heap.size, 0, none⟩)), undef, undef, undef, undef, undef, undef, undef, undef, undef, undef, undef, undef, undef], []⟩ (by simp only [Op.operands, Call.operands]; simp; try simp only [e3] ; try (repeat' (first | refine ⟨?_, ?_⟩ | rfl))) (v := Value.agg #[.int .u64 (u k.1), .int .u64 (u k.2)]) ?_ hU ?_ (hSr wF)
      · (obtain ⟨hf, _⟩ := hU; have c0 := (hf.cell (p := ⟨w.heap.size, 0, none⟩) (by show w.heap.size < _; omega) (fun e => by have e : w.heap.size = w.heap.size + 1 := e; omega)).trans HKc.out.1; have c1 := (hf.cell (p := ⟨w.heap.size, 1, none⟩) (by show w.heap.size < _; omega) (fun e => by have e : w.heap.size = w.heap.size + 1 := e; omega)).trans HKc.out.2; go_simp)
      · exact rfl
    · intro ho aF wF hU hF
      have e1 : aF.eval (.tmp 1) = Value.string (bs l) := hF.out 1 (by kernel_rfl)
      refine flow_see ho rfl (fun _ _ h => by cases h) ⟨#[undef, (Value.string (bs l)), undef, undef, undef, undef, undef, undef, undef, undef, undef, undef, undef, undef, undef, undef, undef, undef], []⟩ (by simp only [Op.operands, Call.operands]; simp; try simp only [e1] ; try (repeat' (first | refine ⟨?_, ?_⟩ | rfl))) (v := Value.string (bs l)) ?_ hU ?_ (hSr wF)
      · (go_simp <;> with_reducible rfl)
      · exact rfl
    · intro ho aF wF hU hF
      refine flow_at ho rfl (fun _ _ h => by cases h) ⟨#[undef, undef, undef, undef, undef, undef, undef, undef, undef, undef, undef, undef, undef, undef, undef, undef, undef, undef, undef], []⟩ (fun d h => by cases h; exact (by decide : (18 : Nat) < 19)) (by simp only [Op.operands, Call.operands]; simp; try (repeat' (first | refine ⟨?_, ?_⟩ | rfl))) (fun K hK => ?_)
      go_simp
      have hf1 := (Fr.refl none_ wF).alloc (.cells #[bv 2] 5)
      exact hK.out _ _ _ rfl (hUn _ _ hU hf1) (own_made wF [bv 2] 5 (by show 1 ≤ maxLen; decide) wr.heap.size hU.1.size) (hSn _ _ hf1)
    · intro ho aF wF hU hF
      obtain ⟨v11, g11, e18⟩ := hF.at_ 11 (by kernel_rfl) rfl rfl
      change (fun v w' => Own w' wr.heap.size 5 v ([2].map bv)) v11 wF at g11
      try dsimp only at g11
      refine flow_at ho rfl (fun _ _ h => by cases h) ⟨#[undef, undef, undef, undef, undef, undef, undef, undef, undef, undef, undef, undef, undef, undef, undef, undef, undef, undef, (v11), undef], []⟩ (fun d h => by cases h; exact (by decide : (19 : Nat) < 20)) (by simp only [Op.operands, Call.operands]; simp; try simp only [e18] ; try (repeat' (first | refine ⟨?_, ?_⟩ | rfl))) (fun K hK => ?_)
      refine wp_str _ _ 25 9 5 rfl Try.underlying25 Try.underlying5 Try.underlying9 v11 [2] rfl g11.rd ?_
      exact hK.out _ _ _ rfl hU rfl (hSr _)
    · intro ho aF wF hU hF
      obtain ⟨v10, g10, e17⟩ := hF.at_ 10 (by kernel_rfl) rfl rfl
      change (fun v _ => v = Value.string (bs l)) v10 wF at g10
      replace e17 := e17.trans g10
      obtain ⟨v12, g12, e19⟩ := hF.at_ 12 (by kernel_rfl) rfl rfl
      change (fun v _ => v = Value.string (bs [2])) v12 wF at g12
      replace e19 := e19.trans g12
      refine flow_see ho rfl (fun _ _ h => by cases h) ⟨#[undef, undef, undef, undef, undef, undef, undef, undef, undef, undef, undef, undef, undef, undef, undef, undef, undef, (Value.string (bs l)), undef, (Value.string (bs [2])), undef], []⟩ (by simp only [Op.operands, Call.operands]; simp; try simp only [e17, e19] ; try (repeat' (first | refine ⟨?_, ?_⟩ | rfl))) (v := Value.string sD) ?_ hU ?_ (hSr wF)
      · (go_simp <;> with_reducible rfl)
      · exact rfl
    · intro ho aF wF hU hF
      have e2 : aF.eval (.tmp 2) = Value.int .u64 (u n) := hF.out 2 (by kernel_rfl)
      refine flow_see ho rfl (fun _ _ h => by cases h) ⟨#[undef, undef, (Value.int .u64 (u n)), undef, undef, undef, undef, undef, undef, undef, undef, undef, undef, undef, undef, undef, undef, undef, undef, undef, undef, undef], []⟩ (by simp only [Op.operands, Call.operands]; simp; try simp only [e2] ; try (repeat' (first | refine ⟨?_, ?_⟩ | rfl))) (v := Value.int .u64 (u n)) ?_ hU ?_ (hSr wF)
      · (go_simp <;> with_reducible rfl)
      · exact rfl
    · intro ho aF wF hU hF
      obtain ⟨v14, g14, e21⟩ := hF.at_ 14 (by kernel_rfl) rfl rfl
      change (fun v _ => v = Value.int .u64 (u n)) v14 wF at g14
      replace e21 := e21.trans g14
      refine flow_at ho rfl (fun _ _ h => by cases h) ⟨#[undef, undef, undef, undef, undef, undef, undef, undef, undef, undef, undef, undef, undef, undef, undef, undef, undef, undef, undef, undef, undef, (Value.int .u64 (u n)), undef], []⟩ (fun d h => by cases h; exact (by decide : (22 : Nat) < 23)) (by simp only [Op.operands, Call.operands]; simp; try simp only [e21] ; try (repeat' (first | refine ⟨?_, ?_⟩ | rfl))) (fun K hK => ?_)
      go_simp
      go_wp2_with (go_at_call 35; refine (rput_any n _).mono ?_; rintro e w1 ⟨rfl, hf1⟩)
      exact hK.out _ w1 _ rfl (hUn _ _ hU hf1) rfl (hSn _ _ hf1)
    · intro ho aF wF hU hF
      obtain ⟨v13, g13, e20⟩ := hF.at_ 13 (by kernel_rfl) rfl rfl
      change (fun v _ => v = Value.string sD) v13 wF at g13
      replace e20 := e20.trans g13
      obtain ⟨v15, g15, e22⟩ := hF.at_ 15 (by kernel_rfl) rfl rfl
      change (fun v _ => v = Value.string (bs (putB n))) v15 wF at g15
      replace e22 := e22.trans g15
      refine flow_see ho rfl (fun _ _ h => by cases h) ⟨#[undef, undef, undef, undef, undef, undef, undef, undef, undef, undef, undef, undef, undef, undef, undef, undef, undef, undef, undef, undef, (Value.string sD), undef, (Value.string (bs (putB n))), undef], []⟩ (by simp only [Op.operands, Call.operands]; simp; try simp only [e20, e22] ; try (repeat' (first | refine ⟨?_, ?_⟩ | rfl))) (v := Value.string sB) ?_ hU ?_ (hSr wF)
      · (go_simp <;> with_reducible rfl)
      · exact rfl
    · intro ho aF wF hU hF
      obtain ⟨v9, g9, e16⟩ := hF.at_ 9 (by kernel_rfl) rfl rfl
      change (fun v _ => v = Value.agg #[.int .u64 (u k.1), .int .u64 (u k.2)]) v9 wF at g9
      replace e16 := e16.trans g9
      obtain ⟨v16, g16, e23⟩ := hF.at_ 16 (by kernel_rfl) rfl rfl
      change (fun v _ => v = Value.string sB) v16 wF at g16
      replace e23 := e23.trans g16
      refine flow_at ho rfl (fun _ _ h => by cases h) ⟨#[undef, undef, undef, undef, undef, undef, undef, undef, undef, undef, undef, undef, undef, undef, undef, undef, (Value.agg #[.int .u64 (u k.1), .int .u64 (u k.2)]), undef, undef, undef, undef, undef, undef, (Value.string sB), undef], []⟩ (fun d h => by cases h; exact (by decide : (24 : Nat) < 25)) (by simp only [Op.operands, Call.operands]; simp; try simp only [e16, e23] ; try (repeat' (first | refine ⟨?_, ?_⟩ | rfl))) (fun K hK => ?_)
      go_simp
      go_wp2_with (go_at_call 33; refine (HS2 _).mono ?_; rintro e w1 ⟨rfl, hf1⟩)
      exact hK.out _ w1 _ rfl (hUn _ _ hU hf1) rfl (hSn _ _ hf1)
    · intro ho aF wF hU hF
      obtain ⟨vq8, g8, e15⟩ := hF.at_ 8 (by kernel_rfl) rfl rfl
      change (fun v _ => v = Value.int .u64 (u (deriveW k l n).1)) vq8 wF at g8
      replace e15 := e15.trans g8
      obtain ⟨v17, g17, e24⟩ := hF.at_ 17 (by kernel_rfl) rfl rfl
      change (fun v _ => v = Value.int .u64 (u (deriveW k l n).2)) v17 wF at g17
      replace e24 := e24.trans g17
      refine flow_see ho rfl (fun _ _ h => by cases h) ⟨#[undef, undef, undef, undef, undef, undef, undef, undef, undef, undef, undef, undef, undef, undef, undef, (Value.int .u64 (u (deriveW k l n).1)), undef, undef, undef, undef, undef, undef, undef, undef, (Value.int .u64 (u (deriveW k l n).2)), undef], []⟩ (by simp only [Op.operands, Call.operands]; simp; try simp only [e15, e24] ; try (repeat' (first | refine ⟨?_, ?_⟩ | rfl))) (v := Value.agg #[.int .u64 (u (deriveW k l n).1), .int .u64 (u (deriveW k l n).2)]) ?_ hU ?_ (hSr wF)
      · (go_simp <;> with_reducible rfl)
      · exact rfl
    · intro ho aF wF hU hF
      have e6 : aF.eval (.tmp 6) = Value.pointer (some ⟨w.heap.size + 1, 0, none⟩) := hF.out 6 (by kernel_rfl)
      obtain ⟨v18, g18, e25⟩ := hF.at_ 18 (by kernel_rfl) rfl rfl
      change (fun v _ => v = Value.agg #[.int .u64 (u (deriveW k l n).1), .int .u64 (u (deriveW k l n).2)]) v18 wF at g18
      replace e25 := e25.trans g18
      refine flow_at ho rfl (fun _ _ h => by cases h) ⟨#[undef, undef, undef, undef, undef, undef, (Value.pointer (some ⟨w.heap.size + 1, 0, none⟩)), undef, undef, undef, undef, undef, undef, undef, undef, undef, undef, undef, undef, undef, undef, undef, undef, undef, undef, (Value.agg #[.int .u64 (u (deriveW k l n).1), .int .u64 (u (deriveW k l n).2)])], []⟩ (fun d h => by cases h) (by simp only [Op.operands, Call.operands]; simp; try simp only [e6, e25] ; try (repeat' (first | refine ⟨?_, ?_⟩ | rfl))) (fun K hK => ?_)
      have hf1 := ((Fr.refl (fun i => i = w.heap.size + 1) wF).setCell (p := ⟨w.heap.size + 1, 0, none⟩) (fun _ => rfl) (.int .u64 (u (deriveW k l n).1))).setCell (p := ⟨w.heap.size + 1, 1, none⟩) (fun _ => rfl) (.int .u64 (u (deriveW k l n).2))
      obtain ⟨hf, hb | hb⟩ := hU
      · have c0 : wF.cell? ⟨w.heap.size + 1, 0, none⟩ = some (.int .u64 0) := hb.cell_of rfl
        have c1 : wF.cell? ⟨w.heap.size + 1, 1, none⟩ = some (.int .u64 0) := hb.cell_of rfl
        have f0 := hb.free 0
        have f1 := hb.free 1
        have hb1 := (hb.setCell 0 (.int .u64 (u (deriveW k l n).1))).setCell 1 (.int .u64 (u (deriveW k l n).2))
        go_simp
        exact hK.out undef _ _ rfl ⟨hf.trans hf1, .inr hb1⟩ hb1 ⟨hf1, fun _ => hb1⟩
      · have c0 : wF.cell? ⟨w.heap.size + 1, 0, none⟩ = some (.int .u64 (u (deriveW k l n).1)) := hb.cell_of rfl
        have c1 : wF.cell? ⟨w.heap.size + 1, 1, none⟩ = some (.int .u64 (u (deriveW k l n).2)) := hb.cell_of rfl
        have f0 := hb.free 0
        have f1 := hb.free 1
        have hb1 := (hb.setCell 0 (.int .u64 (u (deriveW k l n).1))).setCell 1 (.int .u64 (u (deriveW k l n).2))
        go_simp
        exact hK.out undef _ _ rfl ⟨hf.trans hf1, .inr hb1⟩ hb1 ⟨hf1, fun _ => hb1⟩
  intro g wE hUE hGE
  have gE0 := hGE 0 (by decide)
  change (fun v _ => v = Value.agg #[.int .u64 (u k.1), .int .u64 (u k.2)]) (g 0) wE at gE0
  have gE1 := hGE 1 (by decide)
  change (fun v _ => v = Value.string (bs l)) (g 1) wE at gE1
  have gE2 := hGE 2 (by decide)
  change (fun v w' => Own w' wr.heap.size 5 v ([1].map bv)) (g 2) wE at gE2
  try dsimp only at gE2
  have gE3 := hGE 3 (by decide)
  change (fun v _ => v = Value.string (bs [1])) (g 3) wE at gE3
  have gE4 := hGE 4 (by decide)
  change (fun v _ => v = Value.string sC) (g 4) wE at gE4
  have gE5 := hGE 5 (by decide)
  change (fun v _ => v = Value.int .u64 (u n)) (g 5) wE at gE5
  have gE6 := hGE 6 (by decide)
  change (fun v _ => v = Value.string (bs (putB n))) (g 6) wE at gE6
  have gE7 := hGE 7 (by decide)
  change (fun v _ => v = Value.string sA) (g 7) wE at gE7
  have gE8 := hGE 8 (by decide)
  change (fun v _ => v = Value.int .u64 (u (deriveW k l n).1)) (g 8) wE at gE8
  have gE9 := hGE 9 (by decide)
  change (fun v _ => v = Value.agg #[.int .u64 (u k.1), .int .u64 (u k.2)]) (g 9) wE at gE9
  have gE10 := hGE 10 (by decide)
  change (fun v _ => v = Value.string (bs l)) (g 10) wE at gE10
  have gE11 := hGE 11 (by decide)
  change (fun v w' => Own w' wr.heap.size 5 v ([2].map bv)) (g 11) wE at gE11
  try dsimp only at gE11
  have gE12 := hGE 12 (by decide)
  change (fun v _ => v = Value.string (bs [2])) (g 12) wE at gE12
  have gE13 := hGE 13 (by decide)
  change (fun v _ => v = Value.string sD) (g 13) wE at gE13
  have gE14 := hGE 14 (by decide)
  change (fun v _ => v = Value.int .u64 (u n)) (g 14) wE at gE14
  have gE15 := hGE 15 (by decide)
  change (fun v _ => v = Value.string (bs (putB n))) (g 15) wE at gE15
  have gE16 := hGE 16 (by decide)
  change (fun v _ => v = Value.string sB) (g 16) wE at gE16
  have gE17 := hGE 17 (by decide)
  change (fun v _ => v = Value.int .u64 (u (deriveW k l n).2)) (g 17) wE at gE17
  have gE18 := hGE 18 (by decide)
  change (fun v _ => v = Value.agg #[.int .u64 (u (deriveW k l n).1), .int .u64 (u (deriveW k l n).2)]) (g 18) wE at gE18
  have gE19 := hGE 19 (by decide)
  change (fun _ w' => Blk w' (w.heap.size + 1) 56 [.int .u64 (u (deriveW k l n).1), .int .u64 (u (deriveW k l n).2)]) (g 19) wE at gE19
  try dsimp only at gE19
  simp only [fillA, Act.put, List.setIfInBounds_toArray, List.set_cons_zero, List.set_cons_succ, gE0, gE1, gE3, gE4, gE5, gE6, gE7, gE8, gE9, gE10, gE12, gE13, gE14, gE15, gE16, gE17, gE18]
  clear hGE gE0 gE1 gE3 gE4 gE5 gE6 gE7 gE8 gE9 gE10 gE12 gE13 gE14 gE15 gE16 gE17 gE18
  generalize g 2 = vE2 at *
  generalize g 11 = vE11 at *
  have hF1 : Fr none_ w wE := hF.step hUE.1 (fun i hi e => by have e : i = w.heap.size + 1 := e; omega)
  clear hUn hSn hSr hUE
  have d0 : wE.cell? ⟨w.heap.size + 1, 0, none⟩ = some (.int .u64 (u (deriveW k l n).1)) := gE19.cell_of rfl
  have d1 : wE.cell? ⟨w.heap.size + 1, 1, none⟩ = some (.int .u64 (u (deriveW k l n).2)) := gE19.cell_of rfl
  go_wp2_with fail
  exact bodyPost_ret (v := .agg #[.int .u64 (u (deriveW k l n).1), .int .u64 (u (deriveW k l n).2)]) (by simp [results, Try.results46, go_sem, d0, d1]) rfl ⟨rfl, hF1⟩

set_option maxRecDepth 100000 in
set_option maxHeartbeats 1600000 in
theorem rroot_any (seed : W) (w : World) :
    Calls Try.prog 48 #[.int .u64 (u seed)] w fun e w' => e = .returned (keyv (rootW seed)) ∧ Fr none_ w w' := by
  unfold keyv
  have hR := Blk.new w #[.int .u64 0, .int .u64 0] 56
  have hF := (Fr.refl none_ w).alloc (.cells #[.int .u64 0, .int .u64 0] 56)
  have h1 : Calls Try.prog 46 #[.agg #[.int .u64 (u seed), .int .u64 (u (seed + 1))], .string { data := #[114, 111, 111, 116] }, .int .u64 0] (w.alloc (.cells #[.int .u64 0, .int .u64 0] 56)) fun e w' => e = .returned (keyv (rootW seed)) ∧ Fr none_ (w.alloc (.cells #[.int .u64 0, .int .u64 0] 56)) w' := rderive_any (seed, seed + 1) rootL 0 _ (by decide)
  have H1 := Lib.hid h1
  have hadd : IntKind.u64.wrap (u seed + 1) = u (seed + 1) := u_add seed 1
  clear h1
  generalize rootW seed = kk at *
  go_enter Try.func48, Try.ntmps48
  go_wp2_with fail
  refine H1.out.mono ?_
  unfold keyv
  rintro e w1 ⟨rfl, hf1⟩
  have hR1 := hR.kept hf1 (fun f => f)
  have hF1 := hF.trans hf1
  have b0 : w1.cell? ⟨w.heap.size, 0, none⟩ = some (.int .u64 0) := hR1.cell_of rfl
  have b1 : w1.cell? ⟨w.heap.size, 1, none⟩ = some (.int .u64 0) := hR1.cell_of rfl
  have f0 := hR1.free 0
  have f1 := hR1.free 1
  go_wp2_with fail
  have hb3 := (hR1.setCell 0 (.int .u64 (u kk.1))).setCell 1 (.int .u64 (u kk.2))
  have hF3 : Fr none_ w ((w1.setCell ⟨w.heap.size, 0, none⟩ (.int .u64 (u kk.1))).setCell ⟨w.heap.size, 1, none⟩ (.int .u64 (u kk.2))) := (hF1.setCell (fun h => by simp at h) _).setCell (fun h => by simp at h) _
  generalize (w1.setCell ⟨w.heap.size, 0, none⟩ (.int .u64 (u kk.1))).setCell ⟨w.heap.size, 1, none⟩ (.int .u64 (u kk.2)) = w3 at *
  have d0 : w3.cell? ⟨w.heap.size, 0, none⟩ = some (.int .u64 (u kk.1)) := hb3.cell_of rfl
  have d1 : w3.cell? ⟨w.heap.size, 1, none⟩ = some (.int .u64 (u kk.2)) := hb3.cell_of rfl
  exact bodyPost_ret (v := .agg #[.int .u64 (u kk.1), .int .u64 (u kk.2)]) (by simp [results, Try.results48, go_sem, d0, d1]) rfl ⟨rfl, hF3⟩

set_option maxRecDepth 100000 in
set_option maxHeartbeats 1600000 in
theorem rof_any (seed : W) (who gen : Int) (w : World) :
    Calls Try.prog 50 #[.int .u64 (u seed), .int .i64 who, .int .i64 gen] w fun e w' => e = .returned (keyv (ofW seed who gen)) ∧ Fr none_ w w' := by
  unfold keyv
  have hR := Blk.new w #[.int .u64 0, .int .u64 0] 56
  have hF := (Fr.refl none_ w).alloc (.cells #[.int .u64 0, .int .u64 0] 56)
  have hw1 : IntKind.u64.wrap who = u (wi who) := (u_ofInt who).symm
  have hw2 : IntKind.u64.wrap gen = u (wi gen) := (u_ofInt gen).symm
  have H2 : ∀ wa, (Calls Try.prog 46 #[.agg #[.int .u64 (u (rootW seed).1), .int .u64 (u (rootW seed).2)], .string { data := #[119, 104, 111] }, .int .u64 (u (wi who))] wa fun e w' => e = .returned (keyv (deriveW (rootW seed) whoL (wi who))) ∧ Fr none_ wa w') := fun wa => (rderive_any (rootW seed) whoL (wi who) wa (by decide))
  have H3 : ∀ wa, (Calls Try.prog 46 #[.agg #[.int .u64 (u (deriveW (rootW seed) whoL (wi who)).1), .int .u64 (u (deriveW (rootW seed) whoL (wi who)).2)], .string { data := #[103, 101, 110] }, .int .u64 (u (wi gen))] wa fun e w' => e = .returned (keyv (ofW seed who gen)) ∧ Fr none_ wa w') := fun wa => (rderive_any (deriveW (rootW seed) whoL (wi who)) genL (wi gen) wa (by decide))
  have H1 : ∀ wa, (Calls Try.prog 48 #[.int .u64 (u seed)] wa fun e w' => e = .returned (keyv (rootW seed)) ∧ Fr none_ wa w') := fun wa => (rroot_any seed wa)
  generalize ofW seed who gen = kk at *
  generalize deriveW (rootW seed) whoL (wi who) = k2 at *
  generalize rootW seed = k1 at *
  go_enter Try.func50, Try.ntmps50
  go_wp2_with fail
  refine (H1 _).mono ?_
  unfold keyv
  rintro e w1 ⟨rfl, hf1⟩
  have hR1 := hR.kept hf1 (fun f => f)
  have hF1 := hF.trans hf1
  clear H1 hR hF hf1
  go_wp2_with fail
  refine (H2 _).mono ?_
  unfold keyv
  rintro e w2 ⟨rfl, hf2⟩
  have hR2 := hR1.kept hf2 (fun f => f)
  have hF2 := hF1.trans hf2
  clear H2 hR1 hF1 hf2
  go_wp2_with fail
  refine (H3 _).mono ?_
  unfold keyv
  rintro e w3 ⟨rfl, hf3⟩
  have hR3 := hR2.kept hf3 (fun f => f)
  have hF3 := hF2.trans hf3
  clear H3 hR2 hF2 hf3
  have b0 : w3.cell? ⟨w.heap.size, 0, none⟩ = some (.int .u64 0) := hR3.cell_of rfl
  have b1 : w3.cell? ⟨w.heap.size, 1, none⟩ = some (.int .u64 0) := hR3.cell_of rfl
  have f0 := hR3.free 0
  have f1 := hR3.free 1
  go_wp2_with fail
  have hb4 := (hR3.setCell 0 (.int .u64 (u kk.1))).setCell 1 (.int .u64 (u kk.2))
  have hF4 : Fr none_ w ((w3.setCell ⟨w.heap.size, 0, none⟩ (.int .u64 (u kk.1))).setCell ⟨w.heap.size, 1, none⟩ (.int .u64 (u kk.2))) := (hF3.setCell (fun h => by simp at h) _).setCell (fun h => by simp at h) _
  generalize (w3.setCell ⟨w.heap.size, 0, none⟩ (.int .u64 (u kk.1))).setCell ⟨w.heap.size, 1, none⟩ (.int .u64 (u kk.2)) = w4 at *
  have d0 : w4.cell? ⟨w.heap.size, 0, none⟩ = some (.int .u64 (u kk.1)) := hb4.cell_of rfl
  have d1 : w4.cell? ⟨w.heap.size, 1, none⟩ = some (.int .u64 (u kk.2)) := hb4.cell_of rfl
  exact bodyPost_ret (v := .agg #[.int .u64 (u kk.1), .int .u64 (u kk.2)]) (by simp [results, Try.results50, go_sem, d0, d1]) rfl ⟨rfl, hF4⟩
end Go.Proofs.Ytandenkoejbloaa
