/- For every input the law quorumitelaw2.MacWords returns true: a tag's two words are sums under two keys, the second one with its words changed about and one turned. Conditions: none. -/
import Derived.Test.YtandenkoejbloaaTold2
import Derived.Test.YtandenkoejbloaaFacts
import Derived.Test.YtandenkoejbloaaFlow
namespace Go.Proofs.Ytandenkoejbloaa
open Go Go.RowKit

set_option maxRecDepth 100000 in
set_option maxHeartbeats 30000000 in
theorem walk_MacWords (w : World) (k : W × W) (v1 : Value) (l : List UInt8) (h1 : Rd w v1 (l.map bv)) :
    Calls Try.prog 13 #[.agg #[.int .u64 (u k.1), .int .u64 (u k.2)], v1] w fun e w' => e = .returned (.bool true) ∧ Fr none_ w w' := by
  have HR := Lib.hid (h1.alloc (.cells #[.int .u64 (u k.1), .int .u64 (u k.2)] 23))
  obtain ⟨ao, cap, rfl, hc1, hm1, _⟩ := h1
  simp only [List.length_map] at *
  unfold maxLen at hm1
  have hB := Blk.new w #[.int .u64 (u k.1), .int .u64 (u k.2)] 23
  have HF := Lib.hid ((Fr.refl none_ w).alloc (.cells #[.int .u64 (u k.1), .int .u64 (u k.2)] 23))
  go_enter Try.func13, Try.ntmps13
  by_cases hbig : 100 < l.length
  · have hd : decide ((100 : Int) < (l.length : Int)) = true := by simp; omega
    go_wp2_with fail
    refine (told2_any _).mono ?_
    rintro e w3 ⟨rfl, hf⟩
    go_wp2
    go_ret
    exact ⟨rfl, HF.out.trans hf⟩
  have hd : decide ((100 : Int) < (l.length : Int)) = false := by simp; omega
  generalize hw0 : w.alloc (.cells #[.int .u64 (u k.1), .int .u64 (u k.2)] 23) = wa at *
  have HT := Lib.hid (mtag_any k _ l wa HR.out (by omega))
  have e1 : sumW k l = (tagW k l).1 := rfl
  have e2 : sumW (k.2, ~~~k.1) l = (tagW k l).2 := rfl
  have HS1 : ∀ wx : World, Rd wx (.slice ao l.length cap) (l.map bv) → Calls Try.prog 32 #[keyv k, .slice ao l.length cap] wx fun e w' => e = .returned (.int .u64 (u (tagW k l).1)) ∧ Fr none_ wx w' := fun wx h => by rw [← e1]; exact ssum_any k _ l wx h (by omega)
  have HS2 : ∀ wx : World, Rd wx (.slice ao l.length cap) (l.map bv) → Calls Try.prog 32 #[keyv (k.2, ~~~k.1), .slice ao l.length cap] wx fun e w' => e = .returned (.int .u64 (u (tagW k l).2)) ∧ Fr none_ wx w' := fun wx h => by rw [← e2]; exact ssum_any (k.2, ~~~k.1) _ l wx h (by omega)
  clear e1 e2
  have k0 : wa.cell? ⟨w.heap.size, 0, none⟩ = some (.int .u64 (u k.1)) := hB.cell_of rfl
  have k1 : wa.cell? ⟨w.heap.size, 1, none⟩ = some (.int .u64 (u k.2)) := hB.cell_of rfl
  generalize tagW k l = t at *
  have hadd : Op.stringOp .add (bs (putB t.1)) (bs (putB t.2)) = pure (.string (bs (tagB t))) := str_add _ _ (by rw [putB_length, putB_length]; omega)
  have hE : ((bs (tagB t)).toList == (bs (tagB t)).toList) = true := by simp
  unfold keyv at *
  go_wp2_with fail
  refine HT.out.mono ?_
  rintro e wb ⟨rfl, hfb⟩
  have hBb := (hB.kept hfb (fun f => f)).alloc (.cells #[.int .u64 (u t.1), .int .u64 (u t.2)] 52)
  have hTb := Blk.new wb #[.int .u64 (u t.1), .int .u64 (u t.2)] 52
  have HRb := Lib.hid ((HR.out.kept hfb (fun _ _ _ _ f => f)).alloc (.cells #[.int .u64 (u t.1), .int .u64 (u t.2)] 52))
  have HFb := Lib.hid ((HF.out.trans hfb).alloc (.cells #[.int .u64 (u t.1), .int .u64 (u t.2)] 52))
  clear hB hfb HF HR HT k0 k1 hw0
  go_wp2_with fail
  generalize wb.alloc (.cells #[.int .u64 (u t.1), .int .u64 (u t.2)] 52) = w0 at *
  generalize wb.heap.size = c at *
  have hbl := hBb.lt
  have hbt := hTb.lt
  have HU := Lib.hid (show w0.cell? ⟨w.heap.size, 0, none⟩ = some (.int .u64 (u k.1)) ∧ w0.cell? ⟨w.heap.size, 1, none⟩ = some (.int .u64 (u k.2)) ∧ w0.cell? ⟨c, 0, none⟩ = some (.int .u64 (u t.1)) ∧ w0.cell? ⟨c, 1, none⟩ = some (.int .u64 (u t.2)) from ⟨hBb.cell_of rfl, hBb.cell_of rfl, hTb.cell_of rfl, hTb.cell_of rfl⟩)
  clear hBb hTb
  have hUn : ∀ a b : World, Fr none_ w0 a → Fr none_ a b → Fr none_ w0 b := fun a b h1 h2 => h1.trans h2
  have hSr : ∀ a : World, Fr none_ a a := fun a => Fr.refl none_ a
  have hk0 := HU.out
  refine region_flow [0, 1, 2, 6, 2, 2, 50, 74, 130, 320, 512, 1536, 512, 4608, 512, 16896, 33280, 74240, 512, 393728, 526848, 1049088, 2621440, 4194304, 12582912, 20971520, 4194304, 71303168, 155189248, 272629760, 4194304, 1077936128, 2420113408, 4299161600, 9130999808, 17217617920, 34363932672, 137438953471] [0, 1, 3, 7, 3, 3, 51, 127, 255, 511, 1023, 2047, 1023, 5119, 1023, 17407, 50175, 127999, 1023, 521215, 1048575, 2097151, 4194303, 8388607, 16777215, 33554431, 8388607, 75497471, 234881023, 503316479, 8388607, 1082130431, 3724541951, 8019509247, 17146314751, 34359738367, 68719476735, 137438953471] (fun w' => Fr none_ w0 w') (gl [(fun v _ => v = Value.bool true), (fun v _ => v = Value.bool true), (fun v _ => v = Value.pointer (some ⟨c, 0, none⟩)), (fun v _ => v = Value.int .u64 (u t.1)), (fun v _ => v = Value.agg #[.int .u64 (u k.1), .int .u64 (u k.2)]), (fun v _ => v = Value.slice ao l.length cap), (fun v _ => v = Value.int .u64 (u t.1)), (fun v _ => v = Value.bool true), (fun v _ => v = Value.bool true), (fun v _ => v = Value.bool true), (fun v _ => v = Value.pointer (some ⟨c, 1, none⟩)), (fun v _ => v = Value.int .u64 (u t.2)), (fun v _ => v = Value.pointer (some ⟨w.heap.size, 1, none⟩)), (fun v _ => v = Value.int .u64 (u k.2)), (fun v _ => v = Value.pointer (some ⟨w.heap.size, 0, none⟩)), (fun v _ => v = Value.int .u64 (u k.1)), (fun v _ => v = Value.int .u64 (u (~~~k.1))), (fun v _ => v = Value.agg #[.int .u64 (u k.2), .int .u64 (u (~~~k.1))]), (fun v _ => v = Value.slice ao l.length cap), (fun v _ => v = Value.int .u64 (u t.2)), (fun v _ => v = Value.bool true), (fun v _ => v = Value.bool true), (fun v _ => v = Value.bool true), (fun v _ => v = Value.agg #[.int .u64 (u t.1), .int .u64 (u t.2)]), (fun v w' => Own w' w0.heap.size 5 v ((tagB t).map bv)), (fun v _ => v = Value.string (bs (tagB t))), (fun v _ => v = Value.pointer (some ⟨c, 0, none⟩)), (fun v _ => v = Value.int .u64 (u t.1)), (fun v w' => Own w' w0.heap.size 5 v ((putB t.1).map bv)), (fun v _ => v = Value.string (bs (putB t.1))), (fun v _ => v = Value.pointer (some ⟨c, 1, none⟩)), (fun v _ => v = Value.int .u64 (u t.2)), (fun v w' => Own w' w0.heap.size 5 v ((putB t.2).map bv)), (fun v _ => v = Value.string (bs (putB t.2))), (fun v _ => v = Value.string (bs (tagB t))), (fun v _ => v = Value.bool true), (fun v _ => v = Value.bool true), (fun v _ => v = Value.bool true)]) (fun a b => Fr none_ a b) 50 (by as_aux_lemma => kernel_rfl) rfl rfl (by as_aux_lemma => kernel_rfl) (by as_aux_lemma => kernel_rfl) (by as_aux_lemma => kernel_rfl) (by as_aux_lemma => kernel_rfl) (gl_stable _ ?FS) ?FU ?FH ?FQ
  case FS =>
    simp only [List.forall_mem_cons]
    refine ⟨?_, ?_, ?_, ?_, ?_, ?_, ?_, ?_, ?_, ?_, ?_, ?_, ?_, ?_, ?_, ?_, ?_, ?_, ?_, ?_, ?_, ?_, ?_, ?_, ?_, ?_, ?_, ?_, ?_, ?_, ?_, ?_, ?_, ?_, ?_, ?_, ?_, ?_, fun g hg => by cases hg⟩
    all_goals (intro v w w' hs h; first | exact h | (exact h.kept hs (fun _ _ f => f)))
  case FU => exact (Fr.refl none_ w0).drew
  case FH =>
    refine ⟨?_, ?_, ?_, ?_, ?_, ?_, ?_, ?_, ?_, ?_, ?_, ?_, ?_, ?_, ?_, ?_, ?_, ?_, ?_, ?_, ?_, ?_, ?_, ?_, ?_, ?_, ?_, ?_, ?_, ?_, ?_, ?_, ?_, ?_, ?_, ?_, ?_, ?_, trivial⟩
    · intro ho aF wF hU hF
      refine flow_at ho rfl (fun _ _ h => by cases h) ⟨#[undef, undef, undef, undef, undef, undef, undef, undef, undef, undef, undef, undef, undef, undef], []⟩ (fun d h => by cases h; exact (by decide : (13 : Nat) < 14)) (by simp only [Op.operands, Call.operands]; simp; try (repeat' (first | rfl | trivial | refine ⟨?_, ?_⟩))) (fun K hK => ?_)
      go_simp
      go_wp2_with (go_at_call 39; refine (told2_any _).mono ?_; rintro e w1 ⟨rfl, hf1⟩)
      exact hK.out _ w1 _ rfl (hU.trans hf1) rfl hf1
    · intro ho aF wF hU hF
      obtain ⟨v0, g0, e13⟩ := hF.at_ 0 (by kernel_rfl) rfl rfl
      change (fun v _ => v = Value.bool true) v0 wF at g0
      replace e13 := e13.trans g0
      refine flow_see ho rfl (fun _ _ h => by cases h) ⟨#[undef, undef, undef, undef, undef, undef, undef, undef, undef, undef, undef, undef, undef, (Value.bool true), undef], []⟩ (by simp only [Op.operands, Call.operands]; simp; try (repeat' (first | rfl | exact e13 | trivial | refine ⟨?_, ?_⟩))) (v := Value.bool true) ?_ hU ?_ (hSr wF)
      · (go_simp <;> with_reducible rfl)
      · exact rfl
    · intro ho aF wF hU hF
      have e5 : aF.eval (.tmp 5) = Value.pointer (some ⟨c, 0, none⟩) := hF.out 5 (by kernel_rfl)
      obtain ⟨v1w, g1w, e1w⟩ := hF.got 1 _ (by kernel_rfl) rfl
      change (fun v _ => v = Value.bool true) v1w wF at g1w
      have ew := e1w 14 rfl
      refine flow_see ho (by simp only [Region.wanted, yielded]; simp [ew, g1w]) (fun _ _ h => by cases h) ⟨#[undef, undef, undef, undef, undef, (Value.pointer (some ⟨c, 0, none⟩)), undef, undef, undef, undef, undef, undef, undef, undef, undef, undef], []⟩ (by simp only [Op.operands, Call.operands]; simp; try (repeat' (first | rfl | exact e5 | trivial | refine ⟨?_, ?_⟩))) (v := Value.pointer (some ⟨c, 0, none⟩)) ?_ hU ?_ (hSr wF)
      · (go_simp <;> with_reducible rfl)
      · exact rfl
    · intro ho aF wF hU hF
      obtain ⟨v2, g2, e15⟩ := hF.at_ 2 (by kernel_rfl) rfl rfl
      change (fun v _ => v = Value.pointer (some ⟨c, 0, none⟩)) v2 wF at g2
      replace e15 := e15.trans g2
      obtain ⟨v1w, g1w, e1w⟩ := hF.got 1 _ (by kernel_rfl) rfl
      change (fun v _ => v = Value.bool true) v1w wF at g1w
      have ew := e1w 14 rfl
      refine flow_see ho (by simp only [Region.wanted, yielded]; simp [ew, g1w]) (fun _ _ h => by cases h) ⟨#[undef, undef, undef, undef, undef, undef, undef, undef, undef, undef, undef, undef, undef, undef, undef, (Value.pointer (some ⟨c, 0, none⟩)), undef], []⟩ (by simp only [Op.operands, Call.operands]; simp; try (repeat' (first | rfl | exact e15 | trivial | refine ⟨?_, ?_⟩))) (v := Value.int .u64 (u t.1)) ?_ hU ?_ (hSr wF)
      · (obtain ⟨x0, x1, x2, x3⟩ := cells4_kept hU hbl hbt HU.out; go_simp)
      · exact rfl
    · intro ho aF wF hU hF
      have e2 : aF.eval (.tmp 2) = Value.pointer (some ⟨w.heap.size, 0, none⟩) := hF.out 2 (by kernel_rfl)
      obtain ⟨v1w, g1w, e1w⟩ := hF.got 1 _ (by kernel_rfl) rfl
      change (fun v _ => v = Value.bool true) v1w wF at g1w
      have ew := e1w 14 rfl
      refine flow_see ho (by simp only [Region.wanted, yielded]; simp [ew, g1w]) (fun _ _ h => by cases h) ⟨#[undef, undef, (Value.pointer (some ⟨w.heap.size, 0, none⟩)), undef, undef, undef, undef, undef, undef, undef, undef, undef, undef, undef, undef, undef, undef, undef], []⟩ (by simp only [Op.operands, Call.operands]; simp; try (repeat' (first | rfl | exact e2 | trivial | refine ⟨?_, ?_⟩))) (v := Value.agg #[.int .u64 (u k.1), .int .u64 (u k.2)]) ?_ hU ?_ (hSr wF)
      · (obtain ⟨x0, x1, x2, x3⟩ := cells4_kept hU hbl hbt HU.out; go_simp)
      · exact rfl
    · intro ho aF wF hU hF
      have e1 : aF.eval (.tmp 1) = Value.slice ao l.length cap := hF.out 1 (by kernel_rfl)
      obtain ⟨v1w, g1w, e1w⟩ := hF.got 1 _ (by kernel_rfl) rfl
      change (fun v _ => v = Value.bool true) v1w wF at g1w
      have ew := e1w 14 rfl
      refine flow_see ho (by simp only [Region.wanted, yielded]; simp [ew, g1w]) (fun _ _ h => by cases h) ⟨#[undef, (Value.slice ao l.length cap), undef, undef, undef, undef, undef, undef, undef, undef, undef, undef, undef, undef, undef, undef, undef, undef, undef], []⟩ (by simp only [Op.operands, Call.operands]; simp; try (repeat' (first | rfl | exact e1 | trivial | refine ⟨?_, ?_⟩))) (v := Value.slice ao l.length cap) ?_ hU ?_ (hSr wF)
      · (go_simp <;> with_reducible rfl)
      · exact rfl
    · intro ho aF wF hU hF
      obtain ⟨v4, g4, e17⟩ := hF.at_ 4 (by kernel_rfl) rfl rfl
      change (fun v _ => v = Value.agg #[.int .u64 (u k.1), .int .u64 (u k.2)]) v4 wF at g4
      replace e17 := e17.trans g4
      obtain ⟨v5, g5, e18⟩ := hF.at_ 5 (by kernel_rfl) rfl rfl
      change (fun v _ => v = Value.slice ao l.length cap) v5 wF at g5
      replace e18 := e18.trans g5
      obtain ⟨v1w, g1w, e1w⟩ := hF.got 1 _ (by kernel_rfl) rfl
      change (fun v _ => v = Value.bool true) v1w wF at g1w
      have ew := e1w 14 rfl
      refine flow_at ho (by simp only [Region.wanted, yielded]; simp [ew, g1w]) (fun _ _ h => by cases h) ⟨#[undef, undef, undef, undef, undef, undef, undef, undef, undef, undef, undef, undef, undef, undef, undef, undef, undef, (Value.agg #[.int .u64 (u k.1), .int .u64 (u k.2)]), (Value.slice ao l.length cap), undef], []⟩ (fun d h => by cases h; exact (by decide : (19 : Nat) < 20)) (by simp only [Op.operands, Call.operands]; simp; try (repeat' (first | rfl | exact e17 | exact e18 | trivial | refine ⟨?_, ?_⟩))) (fun K hK => ?_)
      go_simp
      go_wp2_with (go_at_call 32; refine (HS1 _ (HRb.out.kept hU (fun _ _ _ _ f => f))).mono ?_; rintro e w1 ⟨rfl, hf1⟩)
      exact hK.out _ w1 _ rfl (hU.trans hf1) rfl hf1
    · intro ho aF wF hU hF
      obtain ⟨v3, g3, e16⟩ := hF.at_ 3 (by kernel_rfl) rfl rfl
      change (fun v _ => v = Value.int .u64 (u t.1)) v3 wF at g3
      replace e16 := e16.trans g3
      obtain ⟨v6, g6, e19⟩ := hF.at_ 6 (by kernel_rfl) rfl rfl
      change (fun v _ => v = Value.int .u64 (u t.1)) v6 wF at g6
      replace e19 := e19.trans g6
      obtain ⟨v1w, g1w, e1w⟩ := hF.got 1 _ (by kernel_rfl) rfl
      change (fun v _ => v = Value.bool true) v1w wF at g1w
      have ew := e1w 14 rfl
      refine flow_see ho (by simp only [Region.wanted, yielded]; simp [ew, g1w]) (fun _ _ h => by cases h) ⟨#[undef, undef, undef, undef, undef, undef, undef, undef, undef, undef, undef, undef, undef, undef, undef, undef, (Value.int .u64 (u t.1)), undef, undef, (Value.int .u64 (u t.1)), undef], []⟩ (by simp only [Op.operands, Call.operands]; simp; try (repeat' (first | rfl | exact e16 | exact e19 | trivial | refine ⟨?_, ?_⟩))) (v := Value.bool true) ?_ hU ?_ (hSr wF)
      · (go_simp <;> with_reducible rfl)
      · exact rfl
    · intro ho aF wF hU hF
      obtain ⟨v1, g1, e14⟩ := hF.at_ 1 (by kernel_rfl) rfl rfl
      change (fun v _ => v = Value.bool true) v1 wF at g1
      replace e14 := e14.trans g1
      obtain ⟨v7, g7, e20⟩ := hF.at_ 7 (by kernel_rfl) rfl rfl
      change (fun v _ => v = Value.bool true) v7 wF at g7
      replace e20 := e20.trans g7
      refine flow_see ho rfl (fun _ _ h => by cases h) ⟨#[undef, undef, undef, undef, undef, undef, undef, undef, undef, undef, undef, undef, undef, undef, (Value.bool true), undef, undef, undef, undef, undef, (Value.bool true), undef], []⟩ (by simp only [Op.operands, Call.operands]; simp; try (repeat' (first | rfl | exact e14 | exact e20 | trivial | refine ⟨?_, ?_⟩))) (v := Value.bool true) ?_ hU ?_ (hSr wF)
      · (go_simp <;> with_reducible rfl)
      · exact rfl
    · intro ho aF wF hU hF
      obtain ⟨v8, g8, e21⟩ := hF.at_ 8 (by kernel_rfl) rfl rfl
      change (fun v _ => v = Value.bool true) v8 wF at g8
      replace e21 := e21.trans g8
      refine flow_see ho rfl (fun _ _ h => by cases h) ⟨#[undef, undef, undef, undef, undef, undef, undef, undef, undef, undef, undef, undef, undef, undef, undef, undef, undef, undef, undef, undef, undef, (Value.bool true), undef], []⟩ (by simp only [Op.operands, Call.operands]; simp; try (repeat' (first | rfl | exact e21 | trivial | refine ⟨?_, ?_⟩))) (v := Value.bool true) ?_ hU ?_ (hSr wF)
      · (go_simp <;> with_reducible rfl)
      · exact rfl
    · intro ho aF wF hU hF
      have e5 : aF.eval (.tmp 5) = Value.pointer (some ⟨c, 0, none⟩) := hF.out 5 (by kernel_rfl)
      obtain ⟨v9w, g9w, e9w⟩ := hF.got 9 _ (by kernel_rfl) rfl
      change (fun v _ => v = Value.bool true) v9w wF at g9w
      have ew := e9w 22 rfl
      refine flow_see ho (by simp only [Region.wanted, yielded]; simp [ew, g9w]) (fun _ _ h => by cases h) ⟨#[undef, undef, undef, undef, undef, (Value.pointer (some ⟨c, 0, none⟩)), undef, undef, undef, undef, undef, undef, undef, undef, undef, undef, undef, undef, undef, undef, undef, undef, undef, undef], []⟩ (by simp only [Op.operands, Call.operands]; simp; try (repeat' (first | rfl | exact e5 | trivial | refine ⟨?_, ?_⟩))) (v := Value.pointer (some ⟨c, 1, none⟩)) ?_ hU ?_ (hSr wF)
      · (go_simp <;> with_reducible rfl)
      · exact rfl
    · intro ho aF wF hU hF
      obtain ⟨v10, g10, e23⟩ := hF.at_ 10 (by kernel_rfl) rfl rfl
      change (fun v _ => v = Value.pointer (some ⟨c, 1, none⟩)) v10 wF at g10
      replace e23 := e23.trans g10
      obtain ⟨v9w, g9w, e9w⟩ := hF.got 9 _ (by kernel_rfl) rfl
      change (fun v _ => v = Value.bool true) v9w wF at g9w
      have ew := e9w 22 rfl
      refine flow_see ho (by simp only [Region.wanted, yielded]; simp [ew, g9w]) (fun _ _ h => by cases h) ⟨#[undef, undef, undef, undef, undef, undef, undef, undef, undef, undef, undef, undef, undef, undef, undef, undef, undef, undef, undef, undef, undef, undef, undef, (Value.pointer (some ⟨c, 1, none⟩)), undef], []⟩ (by simp only [Op.operands, Call.operands]; simp; try (repeat' (first | rfl | exact e23 | trivial | refine ⟨?_, ?_⟩))) (v := Value.int .u64 (u t.2)) ?_ hU ?_ (hSr wF)
      · (obtain ⟨x0, x1, x2, x3⟩ := cells4_kept hU hbl hbt HU.out; go_simp)
      · exact rfl
    · intro ho aF wF hU hF
      have e2 : aF.eval (.tmp 2) = Value.pointer (some ⟨w.heap.size, 0, none⟩) := hF.out 2 (by kernel_rfl)
      obtain ⟨v9w, g9w, e9w⟩ := hF.got 9 _ (by kernel_rfl) rfl
      change (fun v _ => v = Value.bool true) v9w wF at g9w
      have ew := e9w 22 rfl
      refine flow_see ho (by simp only [Region.wanted, yielded]; simp [ew, g9w]) (fun _ _ h => by cases h) ⟨#[undef, undef, (Value.pointer (some ⟨w.heap.size, 0, none⟩)), undef, undef, undef, undef, undef, undef, undef, undef, undef, undef, undef, undef, undef, undef, undef, undef, undef, undef, undef, undef, undef, undef, undef], []⟩ (by simp only [Op.operands, Call.operands]; simp; try (repeat' (first | rfl | exact e2 | trivial | refine ⟨?_, ?_⟩))) (v := Value.pointer (some ⟨w.heap.size, 1, none⟩)) ?_ hU ?_ (hSr wF)
      · (go_simp <;> with_reducible rfl)
      · exact rfl
    · intro ho aF wF hU hF
      obtain ⟨v12, g12, e25⟩ := hF.at_ 12 (by kernel_rfl) rfl rfl
      change (fun v _ => v = Value.pointer (some ⟨w.heap.size, 1, none⟩)) v12 wF at g12
      replace e25 := e25.trans g12
      obtain ⟨v9w, g9w, e9w⟩ := hF.got 9 _ (by kernel_rfl) rfl
      change (fun v _ => v = Value.bool true) v9w wF at g9w
      have ew := e9w 22 rfl
      refine flow_see ho (by simp only [Region.wanted, yielded]; simp [ew, g9w]) (fun _ _ h => by cases h) ⟨#[undef, undef, undef, undef, undef, undef, undef, undef, undef, undef, undef, undef, undef, undef, undef, undef, undef, undef, undef, undef, undef, undef, undef, undef, undef, (Value.pointer (some ⟨w.heap.size, 1, none⟩)), undef], []⟩ (by simp only [Op.operands, Call.operands]; simp; try (repeat' (first | rfl | exact e25 | trivial | refine ⟨?_, ?_⟩))) (v := Value.int .u64 (u k.2)) ?_ hU ?_ (hSr wF)
      · (obtain ⟨x0, x1, x2, x3⟩ := cells4_kept hU hbl hbt HU.out; go_simp)
      · exact rfl
    · intro ho aF wF hU hF
      have e2 : aF.eval (.tmp 2) = Value.pointer (some ⟨w.heap.size, 0, none⟩) := hF.out 2 (by kernel_rfl)
      obtain ⟨v9w, g9w, e9w⟩ := hF.got 9 _ (by kernel_rfl) rfl
      change (fun v _ => v = Value.bool true) v9w wF at g9w
      have ew := e9w 22 rfl
      refine flow_see ho (by simp only [Region.wanted, yielded]; simp [ew, g9w]) (fun _ _ h => by cases h) ⟨#[undef, undef, (Value.pointer (some ⟨w.heap.size, 0, none⟩)), undef, undef, undef, undef, undef, undef, undef, undef, undef, undef, undef, undef, undef, undef, undef, undef, undef, undef, undef, undef, undef, undef, undef, undef, undef], []⟩ (by simp only [Op.operands, Call.operands]; simp; try (repeat' (first | rfl | exact e2 | trivial | refine ⟨?_, ?_⟩))) (v := Value.pointer (some ⟨w.heap.size, 0, none⟩)) ?_ hU ?_ (hSr wF)
      · (go_simp <;> with_reducible rfl)
      · exact rfl
    · intro ho aF wF hU hF
      obtain ⟨v14, g14, e27⟩ := hF.at_ 14 (by kernel_rfl) rfl rfl
      change (fun v _ => v = Value.pointer (some ⟨w.heap.size, 0, none⟩)) v14 wF at g14
      replace e27 := e27.trans g14
      obtain ⟨v9w, g9w, e9w⟩ := hF.got 9 _ (by kernel_rfl) rfl
      change (fun v _ => v = Value.bool true) v9w wF at g9w
      have ew := e9w 22 rfl
      refine flow_see ho (by simp only [Region.wanted, yielded]; simp [ew, g9w]) (fun _ _ h => by cases h) ⟨#[undef, undef, undef, undef, undef, undef, undef, undef, undef, undef, undef, undef, undef, undef, undef, undef, undef, undef, undef, undef, undef, undef, undef, undef, undef, undef, undef, (Value.pointer (some ⟨w.heap.size, 0, none⟩)), undef], []⟩ (by simp only [Op.operands, Call.operands]; simp; try (repeat' (first | rfl | exact e27 | trivial | refine ⟨?_, ?_⟩))) (v := Value.int .u64 (u k.1)) ?_ hU ?_ (hSr wF)
      · (obtain ⟨x0, x1, x2, x3⟩ := cells4_kept hU hbl hbt HU.out; go_simp)
      · exact rfl
    · intro ho aF wF hU hF
      obtain ⟨v15, g15, e28⟩ := hF.at_ 15 (by kernel_rfl) rfl rfl
      change (fun v _ => v = Value.int .u64 (u k.1)) v15 wF at g15
      replace e28 := e28.trans g15
      obtain ⟨v9w, g9w, e9w⟩ := hF.got 9 _ (by kernel_rfl) rfl
      change (fun v _ => v = Value.bool true) v9w wF at g9w
      have ew := e9w 22 rfl
      refine flow_see ho (by simp only [Region.wanted, yielded]; simp [ew, g9w]) (fun _ _ h => by cases h) ⟨#[undef, undef, undef, undef, undef, undef, undef, undef, undef, undef, undef, undef, undef, undef, undef, undef, undef, undef, undef, undef, undef, undef, undef, undef, undef, undef, undef, undef, (Value.int .u64 (u k.1)), undef], []⟩ (by simp only [Op.operands, Call.operands]; simp; try (repeat' (first | rfl | exact e28 | trivial | refine ⟨?_, ?_⟩))) (v := Value.int .u64 (u (~~~k.1))) ?_ hU ?_ (hSr wF)
      · (go_simp; exact u_not k.1)
      · exact rfl
    · intro ho aF wF hU hF
      obtain ⟨v13, g13, e26⟩ := hF.at_ 13 (by kernel_rfl) rfl rfl
      change (fun v _ => v = Value.int .u64 (u k.2)) v13 wF at g13
      replace e26 := e26.trans g13
      obtain ⟨v16, g16, e29⟩ := hF.at_ 16 (by kernel_rfl) rfl rfl
      change (fun v _ => v = Value.int .u64 (u (~~~k.1))) v16 wF at g16
      replace e29 := e29.trans g16
      obtain ⟨v9w, g9w, e9w⟩ := hF.got 9 _ (by kernel_rfl) rfl
      change (fun v _ => v = Value.bool true) v9w wF at g9w
      have ew := e9w 22 rfl
      refine flow_see ho (by simp only [Region.wanted, yielded]; simp [ew, g9w]) (fun _ _ h => by cases h) ⟨#[undef, undef, undef, undef, undef, undef, undef, undef, undef, undef, undef, undef, undef, undef, undef, undef, undef, undef, undef, undef, undef, undef, undef, undef, undef, undef, (Value.int .u64 (u k.2)), undef, undef, (Value.int .u64 (u (~~~k.1))), undef], []⟩ (by simp only [Op.operands, Call.operands]; simp; try (repeat' (first | rfl | exact e26 | exact e29 | trivial | refine ⟨?_, ?_⟩))) (v := Value.agg #[.int .u64 (u k.2), .int .u64 (u (~~~k.1))]) ?_ hU ?_ (hSr wF)
      · (go_simp <;> with_reducible rfl)
      · exact rfl
    · intro ho aF wF hU hF
      have e1 : aF.eval (.tmp 1) = Value.slice ao l.length cap := hF.out 1 (by kernel_rfl)
      obtain ⟨v9w, g9w, e9w⟩ := hF.got 9 _ (by kernel_rfl) rfl
      change (fun v _ => v = Value.bool true) v9w wF at g9w
      have ew := e9w 22 rfl
      refine flow_see ho (by simp only [Region.wanted, yielded]; simp [ew, g9w]) (fun _ _ h => by cases h) ⟨#[undef, (Value.slice ao l.length cap), undef, undef, undef, undef, undef, undef, undef, undef, undef, undef, undef, undef, undef, undef, undef, undef, undef, undef, undef, undef, undef, undef, undef, undef, undef, undef, undef, undef, undef, undef], []⟩ (by simp only [Op.operands, Call.operands]; simp; try (repeat' (first | rfl | exact e1 | trivial | refine ⟨?_, ?_⟩))) (v := Value.slice ao l.length cap) ?_ hU ?_ (hSr wF)
      · (go_simp <;> with_reducible rfl)
      · exact rfl
    · intro ho aF wF hU hF
      obtain ⟨v17, g17, e30⟩ := hF.at_ 17 (by kernel_rfl) rfl rfl
      change (fun v _ => v = Value.agg #[.int .u64 (u k.2), .int .u64 (u (~~~k.1))]) v17 wF at g17
      replace e30 := e30.trans g17
      obtain ⟨v18, g18, e31⟩ := hF.at_ 18 (by kernel_rfl) rfl rfl
      change (fun v _ => v = Value.slice ao l.length cap) v18 wF at g18
      replace e31 := e31.trans g18
      obtain ⟨v9w, g9w, e9w⟩ := hF.got 9 _ (by kernel_rfl) rfl
      change (fun v _ => v = Value.bool true) v9w wF at g9w
      have ew := e9w 22 rfl
      refine flow_at ho (by simp only [Region.wanted, yielded]; simp [ew, g9w]) (fun _ _ h => by cases h) ⟨#[undef, undef, undef, undef, undef, undef, undef, undef, undef, undef, undef, undef, undef, undef, undef, undef, undef, undef, undef, undef, undef, undef, undef, undef, undef, undef, undef, undef, undef, undef, (Value.agg #[.int .u64 (u k.2), .int .u64 (u (~~~k.1))]), (Value.slice ao l.length cap), undef], []⟩ (fun d h => by cases h; exact (by decide : (32 : Nat) < 33)) (by simp only [Op.operands, Call.operands]; simp; try (repeat' (first | rfl | exact e30 | exact e31 | trivial | refine ⟨?_, ?_⟩))) (fun K hK => ?_)
      go_simp
      go_wp2_with (go_at_call 32; refine (HS2 _ (HRb.out.kept hU (fun _ _ _ _ f => f))).mono ?_; rintro e w1 ⟨rfl, hf1⟩)
      exact hK.out _ w1 _ rfl (hU.trans hf1) rfl hf1
    · intro ho aF wF hU hF
      obtain ⟨v11, g11, e24⟩ := hF.at_ 11 (by kernel_rfl) rfl rfl
      change (fun v _ => v = Value.int .u64 (u t.2)) v11 wF at g11
      replace e24 := e24.trans g11
      obtain ⟨v19, g19, e32⟩ := hF.at_ 19 (by kernel_rfl) rfl rfl
      change (fun v _ => v = Value.int .u64 (u t.2)) v19 wF at g19
      replace e32 := e32.trans g19
      obtain ⟨v9w, g9w, e9w⟩ := hF.got 9 _ (by kernel_rfl) rfl
      change (fun v _ => v = Value.bool true) v9w wF at g9w
      have ew := e9w 22 rfl
      refine flow_see ho (by simp only [Region.wanted, yielded]; simp [ew, g9w]) (fun _ _ h => by cases h) ⟨#[undef, undef, undef, undef, undef, undef, undef, undef, undef, undef, undef, undef, undef, undef, undef, undef, undef, undef, undef, undef, undef, undef, undef, undef, (Value.int .u64 (u t.2)), undef, undef, undef, undef, undef, undef, undef, (Value.int .u64 (u t.2)), undef], []⟩ (by simp only [Op.operands, Call.operands]; simp; try (repeat' (first | rfl | exact e24 | exact e32 | trivial | refine ⟨?_, ?_⟩))) (v := Value.bool true) ?_ hU ?_ (hSr wF)
      · (go_simp <;> with_reducible rfl)
      · exact rfl
    · intro ho aF wF hU hF
      obtain ⟨v9, g9, e22⟩ := hF.at_ 9 (by kernel_rfl) rfl rfl
      change (fun v _ => v = Value.bool true) v9 wF at g9
      replace e22 := e22.trans g9
      obtain ⟨v20, g20, e33⟩ := hF.at_ 20 (by kernel_rfl) rfl rfl
      change (fun v _ => v = Value.bool true) v20 wF at g20
      replace e33 := e33.trans g20
      refine flow_see ho rfl (fun _ _ h => by cases h) ⟨#[undef, undef, undef, undef, undef, undef, undef, undef, undef, undef, undef, undef, undef, undef, undef, undef, undef, undef, undef, undef, undef, undef, (Value.bool true), undef, undef, undef, undef, undef, undef, undef, undef, undef, undef, (Value.bool true), undef], []⟩ (by simp only [Op.operands, Call.operands]; simp; try (repeat' (first | rfl | exact e22 | exact e33 | trivial | refine ⟨?_, ?_⟩))) (v := Value.bool true) ?_ hU ?_ (hSr wF)
      · (go_simp <;> with_reducible rfl)
      · exact rfl
    · intro ho aF wF hU hF
      obtain ⟨v21, g21, e34⟩ := hF.at_ 21 (by kernel_rfl) rfl rfl
      change (fun v _ => v = Value.bool true) v21 wF at g21
      replace e34 := e34.trans g21
      refine flow_see ho rfl (fun _ _ h => by cases h) ⟨#[undef, undef, undef, undef, undef, undef, undef, undef, undef, undef, undef, undef, undef, undef, undef, undef, undef, undef, undef, undef, undef, undef, undef, undef, undef, undef, undef, undef, undef, undef, undef, undef, undef, undef, (Value.bool true), undef], []⟩ (by simp only [Op.operands, Call.operands]; simp; try (repeat' (first | rfl | exact e34 | trivial | refine ⟨?_, ?_⟩))) (v := Value.bool true) ?_ hU ?_ (hSr wF)
      · (go_simp <;> with_reducible rfl)
      · exact rfl
    · intro ho aF wF hU hF
      have e5 : aF.eval (.tmp 5) = Value.pointer (some ⟨c, 0, none⟩) := hF.out 5 (by kernel_rfl)
      obtain ⟨v22w, g22w, e22w⟩ := hF.got 22 _ (by kernel_rfl) rfl
      change (fun v _ => v = Value.bool true) v22w wF at g22w
      have ew := e22w 35 rfl
      refine flow_see ho (by simp only [Region.wanted, yielded]; simp [ew, g22w]) (fun _ _ h => by cases h) ⟨#[undef, undef, undef, undef, undef, (Value.pointer (some ⟨c, 0, none⟩)), undef, undef, undef, undef, undef, undef, undef, undef, undef, undef, undef, undef, undef, undef, undef, undef, undef, undef, undef, undef, undef, undef, undef, undef, undef, undef, undef, undef, undef, undef, undef], []⟩ (by simp only [Op.operands, Call.operands]; simp; try (repeat' (first | rfl | exact e5 | trivial | refine ⟨?_, ?_⟩))) (v := Value.agg #[.int .u64 (u t.1), .int .u64 (u t.2)]) ?_ hU ?_ (hSr wF)
      · (obtain ⟨x0, x1, x2, x3⟩ := cells4_kept hU hbl hbt HU.out; go_simp)
      · exact rfl
    · intro ho aF wF hU hF
      obtain ⟨v23, g23, e36⟩ := hF.at_ 23 (by kernel_rfl) rfl rfl
      change (fun v _ => v = Value.agg #[.int .u64 (u t.1), .int .u64 (u t.2)]) v23 wF at g23
      replace e36 := e36.trans g23
      obtain ⟨v22w, g22w, e22w⟩ := hF.got 22 _ (by kernel_rfl) rfl
      change (fun v _ => v = Value.bool true) v22w wF at g22w
      have ew := e22w 35 rfl
      refine flow_at ho (by simp only [Region.wanted, yielded]; simp [ew, g22w]) (fun _ _ h => by cases h) ⟨#[undef, undef, undef, undef, undef, undef, undef, undef, undef, undef, undef, undef, undef, undef, undef, undef, undef, undef, undef, undef, undef, undef, undef, undef, undef, undef, undef, undef, undef, undef, undef, undef, undef, undef, undef, undef, (Value.agg #[.int .u64 (u t.1), .int .u64 (u t.2)]), undef], []⟩ (fun d h => by cases h; exact (by decide : (37 : Nat) < 38)) (by simp only [Op.operands, Call.operands]; simp; try (repeat' (first | rfl | exact e36 | trivial | refine ⟨?_, ?_⟩))) (fun K hK => ?_)
      go_simp
      go_wp2_with (go_at_call 40; refine (mbytes_any t _).mono ?_; rintro e w1 ⟨v1, rfl, ho1, hf1⟩)
      exact hK.out v1 w1 _ rfl (hU.trans hf1) (ho1.mono hU.size) hf1
    · intro ho aF wF hU hF
      obtain ⟨v24, g24, e37⟩ := hF.at_ 24 (by kernel_rfl) rfl rfl
      change (fun v w' => Own w' w0.heap.size 5 v ((tagB t).map bv)) v24 wF at g24
      try dsimp only at g24
      obtain ⟨v22w, g22w, e22w⟩ := hF.got 22 _ (by kernel_rfl) rfl
      change (fun v _ => v = Value.bool true) v22w wF at g22w
      have ew := e22w 35 rfl
      refine flow_at ho (by simp only [Region.wanted, yielded]; simp [ew, g22w]) (fun _ _ h => by cases h) ⟨#[undef, undef, undef, undef, undef, undef, undef, undef, undef, undef, undef, undef, undef, undef, undef, undef, undef, undef, undef, undef, undef, undef, undef, undef, undef, undef, undef, undef, undef, undef, undef, undef, undef, undef, undef, undef, undef, (v24), undef], []⟩ (fun d h => by cases h; exact (by decide : (38 : Nat) < 39)) (by simp only [Op.operands, Call.operands]; simp; try (repeat' (first | rfl | exact e37 | trivial | refine ⟨?_, ?_⟩))) (fun K hK => ?_)
      refine wp_str _ _ 25 9 5 rfl Try.underlying25 Try.underlying5 Try.underlying9 v24 (tagB t) rfl g24.rd ?_
      exact hK.out _ _ _ rfl hU rfl (hSr _)
    · intro ho aF wF hU hF
      have e5 : aF.eval (.tmp 5) = Value.pointer (some ⟨c, 0, none⟩) := hF.out 5 (by kernel_rfl)
      obtain ⟨v22w, g22w, e22w⟩ := hF.got 22 _ (by kernel_rfl) rfl
      change (fun v _ => v = Value.bool true) v22w wF at g22w
      have ew := e22w 35 rfl
      refine flow_see ho (by simp only [Region.wanted, yielded]; simp [ew, g22w]) (fun _ _ h => by cases h) ⟨#[undef, undef, undef, undef, undef, (Value.pointer (some ⟨c, 0, none⟩)), undef, undef, undef, undef, undef, undef, undef, undef, undef, undef, undef, undef, undef, undef, undef, undef, undef, undef, undef, undef, undef, undef, undef, undef, undef, undef, undef, undef, undef, undef, undef, undef, undef, undef], []⟩ (by simp only [Op.operands, Call.operands]; simp; try (repeat' (first | rfl | exact e5 | trivial | refine ⟨?_, ?_⟩))) (v := Value.pointer (some ⟨c, 0, none⟩)) ?_ hU ?_ (hSr wF)
      · (go_simp <;> with_reducible rfl)
      · exact rfl
    · intro ho aF wF hU hF
      obtain ⟨v26, g26, e39⟩ := hF.at_ 26 (by kernel_rfl) rfl rfl
      change (fun v _ => v = Value.pointer (some ⟨c, 0, none⟩)) v26 wF at g26
      replace e39 := e39.trans g26
      obtain ⟨v22w, g22w, e22w⟩ := hF.got 22 _ (by kernel_rfl) rfl
      change (fun v _ => v = Value.bool true) v22w wF at g22w
      have ew := e22w 35 rfl
      refine flow_see ho (by simp only [Region.wanted, yielded]; simp [ew, g22w]) (fun _ _ h => by cases h) ⟨#[undef, undef, undef, undef, undef, undef, undef, undef, undef, undef, undef, undef, undef, undef, undef, undef, undef, undef, undef, undef, undef, undef, undef, undef, undef, undef, undef, undef, undef, undef, undef, undef, undef, undef, undef, undef, undef, undef, undef, (Value.pointer (some ⟨c, 0, none⟩)), undef], []⟩ (by simp only [Op.operands, Call.operands]; simp; try (repeat' (first | rfl | exact e39 | trivial | refine ⟨?_, ?_⟩))) (v := Value.int .u64 (u t.1)) ?_ hU ?_ (hSr wF)
      · (obtain ⟨x0, x1, x2, x3⟩ := cells4_kept hU hbl hbt HU.out; go_simp)
      · exact rfl
    · intro ho aF wF hU hF
      obtain ⟨v27, g27, e40⟩ := hF.at_ 27 (by kernel_rfl) rfl rfl
      change (fun v _ => v = Value.int .u64 (u t.1)) v27 wF at g27
      replace e40 := e40.trans g27
      obtain ⟨v22w, g22w, e22w⟩ := hF.got 22 _ (by kernel_rfl) rfl
      change (fun v _ => v = Value.bool true) v22w wF at g22w
      have ew := e22w 35 rfl
      refine flow_at ho (by simp only [Region.wanted, yielded]; simp [ew, g22w]) (fun _ _ h => by cases h) ⟨#[undef, undef, undef, undef, undef, undef, undef, undef, undef, undef, undef, undef, undef, undef, undef, undef, undef, undef, undef, undef, undef, undef, undef, undef, undef, undef, undef, undef, undef, undef, undef, undef, undef, undef, undef, undef, undef, undef, undef, undef, (Value.int .u64 (u t.1)), undef], []⟩ (fun d h => by cases h; exact (by decide : (41 : Nat) < 42)) (by simp only [Op.operands, Call.operands]; simp; try (repeat' (first | rfl | exact e40 | trivial | refine ⟨?_, ?_⟩))) (fun K hK => ?_)
      go_simp
      go_wp2_with (go_at_call 34; refine (put_any t.1 _).mono ?_; rintro e w1 ⟨v1, rfl, ho1, hf1⟩)
      exact hK.out v1 w1 _ rfl (hU.trans hf1) (ho1.mono hU.size) hf1
    · intro ho aF wF hU hF
      obtain ⟨v28, g28, e41⟩ := hF.at_ 28 (by kernel_rfl) rfl rfl
      change (fun v w' => Own w' w0.heap.size 5 v ((putB t.1).map bv)) v28 wF at g28
      try dsimp only at g28
      obtain ⟨v22w, g22w, e22w⟩ := hF.got 22 _ (by kernel_rfl) rfl
      change (fun v _ => v = Value.bool true) v22w wF at g22w
      have ew := e22w 35 rfl
      refine flow_at ho (by simp only [Region.wanted, yielded]; simp [ew, g22w]) (fun _ _ h => by cases h) ⟨#[undef, undef, undef, undef, undef, undef, undef, undef, undef, undef, undef, undef, undef, undef, undef, undef, undef, undef, undef, undef, undef, undef, undef, undef, undef, undef, undef, undef, undef, undef, undef, undef, undef, undef, undef, undef, undef, undef, undef, undef, undef, (v28), undef], []⟩ (fun d h => by cases h; exact (by decide : (42 : Nat) < 43)) (by simp only [Op.operands, Call.operands]; simp; try (repeat' (first | rfl | exact e41 | trivial | refine ⟨?_, ?_⟩))) (fun K hK => ?_)
      refine wp_str _ _ 25 9 5 rfl Try.underlying25 Try.underlying5 Try.underlying9 v28 (putB t.1) rfl g28.rd ?_
      exact hK.out _ _ _ rfl hU rfl (hSr _)
    · intro ho aF wF hU hF
      have e5 : aF.eval (.tmp 5) = Value.pointer (some ⟨c, 0, none⟩) := hF.out 5 (by kernel_rfl)
      obtain ⟨v22w, g22w, e22w⟩ := hF.got 22 _ (by kernel_rfl) rfl
      change (fun v _ => v = Value.bool true) v22w wF at g22w
      have ew := e22w 35 rfl
      refine flow_see ho (by simp only [Region.wanted, yielded]; simp [ew, g22w]) (fun _ _ h => by cases h) ⟨#[undef, undef, undef, undef, undef, (Value.pointer (some ⟨c, 0, none⟩)), undef, undef, undef, undef, undef, undef, undef, undef, undef, undef, undef, undef, undef, undef, undef, undef, undef, undef, undef, undef, undef, undef, undef, undef, undef, undef, undef, undef, undef, undef, undef, undef, undef, undef, undef, undef, undef, undef], []⟩ (by simp only [Op.operands, Call.operands]; simp; try (repeat' (first | rfl | exact e5 | trivial | refine ⟨?_, ?_⟩))) (v := Value.pointer (some ⟨c, 1, none⟩)) ?_ hU ?_ (hSr wF)
      · (go_simp <;> with_reducible rfl)
      · exact rfl
    · intro ho aF wF hU hF
      obtain ⟨v30, g30, e43⟩ := hF.at_ 30 (by kernel_rfl) rfl rfl
      change (fun v _ => v = Value.pointer (some ⟨c, 1, none⟩)) v30 wF at g30
      replace e43 := e43.trans g30
      obtain ⟨v22w, g22w, e22w⟩ := hF.got 22 _ (by kernel_rfl) rfl
      change (fun v _ => v = Value.bool true) v22w wF at g22w
      have ew := e22w 35 rfl
      refine flow_see ho (by simp only [Region.wanted, yielded]; simp [ew, g22w]) (fun _ _ h => by cases h) ⟨#[undef, undef, undef, undef, undef, undef, undef, undef, undef, undef, undef, undef, undef, undef, undef, undef, undef, undef, undef, undef, undef, undef, undef, undef, undef, undef, undef, undef, undef, undef, undef, undef, undef, undef, undef, undef, undef, undef, undef, undef, undef, undef, undef, (Value.pointer (some ⟨c, 1, none⟩)), undef], []⟩ (by simp only [Op.operands, Call.operands]; simp; try (repeat' (first | rfl | exact e43 | trivial | refine ⟨?_, ?_⟩))) (v := Value.int .u64 (u t.2)) ?_ hU ?_ (hSr wF)
      · (obtain ⟨x0, x1, x2, x3⟩ := cells4_kept hU hbl hbt HU.out; go_simp)
      · exact rfl
    · intro ho aF wF hU hF
      obtain ⟨v31, g31, e44⟩ := hF.at_ 31 (by kernel_rfl) rfl rfl
      change (fun v _ => v = Value.int .u64 (u t.2)) v31 wF at g31
      replace e44 := e44.trans g31
      obtain ⟨v22w, g22w, e22w⟩ := hF.got 22 _ (by kernel_rfl) rfl
      change (fun v _ => v = Value.bool true) v22w wF at g22w
      have ew := e22w 35 rfl
      refine flow_at ho (by simp only [Region.wanted, yielded]; simp [ew, g22w]) (fun _ _ h => by cases h) ⟨#[undef, undef, undef, undef, undef, undef, undef, undef, undef, undef, undef, undef, undef, undef, undef, undef, undef, undef, undef, undef, undef, undef, undef, undef, undef, undef, undef, undef, undef, undef, undef, undef, undef, undef, undef, undef, undef, undef, undef, undef, undef, undef, undef, undef, (Value.int .u64 (u t.2)), undef], []⟩ (fun d h => by cases h; exact (by decide : (45 : Nat) < 46)) (by simp only [Op.operands, Call.operands]; simp; try (repeat' (first | rfl | exact e44 | trivial | refine ⟨?_, ?_⟩))) (fun K hK => ?_)
      go_simp
      go_wp2_with (go_at_call 34; refine (put_any t.2 _).mono ?_; rintro e w1 ⟨v1, rfl, ho1, hf1⟩)
      exact hK.out v1 w1 _ rfl (hU.trans hf1) (ho1.mono hU.size) hf1
    · intro ho aF wF hU hF
      obtain ⟨v32, g32, e45⟩ := hF.at_ 32 (by kernel_rfl) rfl rfl
      change (fun v w' => Own w' w0.heap.size 5 v ((putB t.2).map bv)) v32 wF at g32
      try dsimp only at g32
      obtain ⟨v22w, g22w, e22w⟩ := hF.got 22 _ (by kernel_rfl) rfl
      change (fun v _ => v = Value.bool true) v22w wF at g22w
      have ew := e22w 35 rfl
      refine flow_at ho (by simp only [Region.wanted, yielded]; simp [ew, g22w]) (fun _ _ h => by cases h) ⟨#[undef, undef, undef, undef, undef, undef, undef, undef, undef, undef, undef, undef, undef, undef, undef, undef, undef, undef, undef, undef, undef, undef, undef, undef, undef, undef, undef, undef, undef, undef, undef, undef, undef, undef, undef, undef, undef, undef, undef, undef, undef, undef, undef, undef, undef, (v32), undef], []⟩ (fun d h => by cases h; exact (by decide : (46 : Nat) < 47)) (by simp only [Op.operands, Call.operands]; simp; try (repeat' (first | rfl | exact e45 | trivial | refine ⟨?_, ?_⟩))) (fun K hK => ?_)
      refine wp_str _ _ 25 9 5 rfl Try.underlying25 Try.underlying5 Try.underlying9 v32 (putB t.2) rfl g32.rd ?_
      exact hK.out _ _ _ rfl hU rfl (hSr _)
    · intro ho aF wF hU hF
      obtain ⟨v29, g29, e42⟩ := hF.at_ 29 (by kernel_rfl) rfl rfl
      change (fun v _ => v = Value.string (bs (putB t.1))) v29 wF at g29
      replace e42 := e42.trans g29
      obtain ⟨v33, g33, e46⟩ := hF.at_ 33 (by kernel_rfl) rfl rfl
      change (fun v _ => v = Value.string (bs (putB t.2))) v33 wF at g33
      replace e46 := e46.trans g33
      obtain ⟨v22w, g22w, e22w⟩ := hF.got 22 _ (by kernel_rfl) rfl
      change (fun v _ => v = Value.bool true) v22w wF at g22w
      have ew := e22w 35 rfl
      refine flow_see ho (by simp only [Region.wanted, yielded]; simp [ew, g22w]) (fun _ _ h => by cases h) ⟨#[undef, undef, undef, undef, undef, undef, undef, undef, undef, undef, undef, undef, undef, undef, undef, undef, undef, undef, undef, undef, undef, undef, undef, undef, undef, undef, undef, undef, undef, undef, undef, undef, undef, undef, undef, undef, undef, undef, undef, undef, undef, undef, (Value.string (bs (putB t.1))), undef, undef, undef, (Value.string (bs (putB t.2))), undef], []⟩ (by simp only [Op.operands, Call.operands]; simp; try (repeat' (first | rfl | exact e42 | exact e46 | trivial | refine ⟨?_, ?_⟩))) (v := Value.string (bs (tagB t))) ?_ hU ?_ (hSr wF)
      · (go_simp <;> with_reducible rfl)
      · exact rfl
    · intro ho aF wF hU hF
      obtain ⟨v25, g25, e38⟩ := hF.at_ 25 (by kernel_rfl) rfl rfl
      change (fun v _ => v = Value.string (bs (tagB t))) v25 wF at g25
      replace e38 := e38.trans g25
      obtain ⟨v34, g34, e47⟩ := hF.at_ 34 (by kernel_rfl) rfl rfl
      change (fun v _ => v = Value.string (bs (tagB t))) v34 wF at g34
      replace e47 := e47.trans g34
      obtain ⟨v22w, g22w, e22w⟩ := hF.got 22 _ (by kernel_rfl) rfl
      change (fun v _ => v = Value.bool true) v22w wF at g22w
      have ew := e22w 35 rfl
      refine flow_see ho (by simp only [Region.wanted, yielded]; simp [ew, g22w]) (fun _ _ h => by cases h) ⟨#[undef, undef, undef, undef, undef, undef, undef, undef, undef, undef, undef, undef, undef, undef, undef, undef, undef, undef, undef, undef, undef, undef, undef, undef, undef, undef, undef, undef, undef, undef, undef, undef, undef, undef, undef, undef, undef, undef, (Value.string (bs (tagB t))), undef, undef, undef, undef, undef, undef, undef, undef, (Value.string (bs (tagB t))), undef], []⟩ (by simp only [Op.operands, Call.operands]; simp; try (repeat' (first | rfl | exact e38 | exact e47 | trivial | refine ⟨?_, ?_⟩))) (v := Value.bool true) ?_ hU ?_ (hSr wF)
      · (go_simp <;> with_reducible rfl)
      · exact rfl
    · intro ho aF wF hU hF
      obtain ⟨v22, g22, e35⟩ := hF.at_ 22 (by kernel_rfl) rfl rfl
      change (fun v _ => v = Value.bool true) v22 wF at g22
      replace e35 := e35.trans g22
      obtain ⟨v35, g35, e48⟩ := hF.at_ 35 (by kernel_rfl) rfl rfl
      change (fun v _ => v = Value.bool true) v35 wF at g35
      replace e48 := e48.trans g35
      refine flow_see ho rfl (fun _ _ h => by cases h) ⟨#[undef, undef, undef, undef, undef, undef, undef, undef, undef, undef, undef, undef, undef, undef, undef, undef, undef, undef, undef, undef, undef, undef, undef, undef, undef, undef, undef, undef, undef, undef, undef, undef, undef, undef, undef, (Value.bool true), undef, undef, undef, undef, undef, undef, undef, undef, undef, undef, undef, undef, (Value.bool true), undef], []⟩ (by simp only [Op.operands, Call.operands]; simp; try (repeat' (first | rfl | exact e35 | exact e48 | trivial | refine ⟨?_, ?_⟩))) (v := Value.bool true) ?_ hU ?_ (hSr wF)
      · (go_simp <;> with_reducible rfl)
      · exact rfl
    · intro ho aF wF hU hF
      obtain ⟨v36, g36, e49⟩ := hF.at_ 36 (by kernel_rfl) rfl rfl
      change (fun v _ => v = Value.bool true) v36 wF at g36
      replace e49 := e49.trans g36
      refine flow_see ho rfl (fun _ _ h => by cases h) ⟨#[undef, undef, undef, undef, undef, undef, undef, undef, undef, undef, undef, undef, undef, undef, undef, undef, undef, undef, undef, undef, undef, undef, undef, undef, undef, undef, undef, undef, undef, undef, undef, undef, undef, undef, undef, undef, undef, undef, undef, undef, undef, undef, undef, undef, undef, undef, undef, undef, undef, (Value.bool true)], []⟩ (by simp only [Op.operands, Call.operands]; simp; try (repeat' (first | rfl | exact e49 | trivial | refine ⟨?_, ?_⟩))) (v := Value.bool true) ?_ hU ?_ (hSr wF)
      · (go_simp <;> with_reducible rfl)
      · exact rfl
  intro g wE hUE hGE
  have gE0 := hGE 0 (by decide)
  change (fun v _ => v = Value.bool true) (g 0) wE at gE0
  have gE1 := hGE 1 (by decide)
  change (fun v _ => v = Value.bool true) (g 1) wE at gE1
  have gE2 := hGE 2 (by decide)
  change (fun v _ => v = Value.pointer (some ⟨c, 0, none⟩)) (g 2) wE at gE2
  have gE3 := hGE 3 (by decide)
  change (fun v _ => v = Value.int .u64 (u t.1)) (g 3) wE at gE3
  have gE4 := hGE 4 (by decide)
  change (fun v _ => v = Value.agg #[.int .u64 (u k.1), .int .u64 (u k.2)]) (g 4) wE at gE4
  have gE5 := hGE 5 (by decide)
  change (fun v _ => v = Value.slice ao l.length cap) (g 5) wE at gE5
  have gE6 := hGE 6 (by decide)
  change (fun v _ => v = Value.int .u64 (u t.1)) (g 6) wE at gE6
  have gE7 := hGE 7 (by decide)
  change (fun v _ => v = Value.bool true) (g 7) wE at gE7
  have gE8 := hGE 8 (by decide)
  change (fun v _ => v = Value.bool true) (g 8) wE at gE8
  have gE9 := hGE 9 (by decide)
  change (fun v _ => v = Value.bool true) (g 9) wE at gE9
  have gE10 := hGE 10 (by decide)
  change (fun v _ => v = Value.pointer (some ⟨c, 1, none⟩)) (g 10) wE at gE10
  have gE11 := hGE 11 (by decide)
  change (fun v _ => v = Value.int .u64 (u t.2)) (g 11) wE at gE11
  have gE12 := hGE 12 (by decide)
  change (fun v _ => v = Value.pointer (some ⟨w.heap.size, 1, none⟩)) (g 12) wE at gE12
  have gE13 := hGE 13 (by decide)
  change (fun v _ => v = Value.int .u64 (u k.2)) (g 13) wE at gE13
  have gE14 := hGE 14 (by decide)
  change (fun v _ => v = Value.pointer (some ⟨w.heap.size, 0, none⟩)) (g 14) wE at gE14
  have gE15 := hGE 15 (by decide)
  change (fun v _ => v = Value.int .u64 (u k.1)) (g 15) wE at gE15
  have gE16 := hGE 16 (by decide)
  change (fun v _ => v = Value.int .u64 (u (~~~k.1))) (g 16) wE at gE16
  have gE17 := hGE 17 (by decide)
  change (fun v _ => v = Value.agg #[.int .u64 (u k.2), .int .u64 (u (~~~k.1))]) (g 17) wE at gE17
  have gE18 := hGE 18 (by decide)
  change (fun v _ => v = Value.slice ao l.length cap) (g 18) wE at gE18
  have gE19 := hGE 19 (by decide)
  change (fun v _ => v = Value.int .u64 (u t.2)) (g 19) wE at gE19
  have gE20 := hGE 20 (by decide)
  change (fun v _ => v = Value.bool true) (g 20) wE at gE20
  have gE21 := hGE 21 (by decide)
  change (fun v _ => v = Value.bool true) (g 21) wE at gE21
  have gE22 := hGE 22 (by decide)
  change (fun v _ => v = Value.bool true) (g 22) wE at gE22
  have gE23 := hGE 23 (by decide)
  change (fun v _ => v = Value.agg #[.int .u64 (u t.1), .int .u64 (u t.2)]) (g 23) wE at gE23
  have gE24 := hGE 24 (by decide)
  change (fun v w' => Own w' w0.heap.size 5 v ((tagB t).map bv)) (g 24) wE at gE24
  try dsimp only at gE24
  have gE25 := hGE 25 (by decide)
  change (fun v _ => v = Value.string (bs (tagB t))) (g 25) wE at gE25
  have gE26 := hGE 26 (by decide)
  change (fun v _ => v = Value.pointer (some ⟨c, 0, none⟩)) (g 26) wE at gE26
  have gE27 := hGE 27 (by decide)
  change (fun v _ => v = Value.int .u64 (u t.1)) (g 27) wE at gE27
  have gE28 := hGE 28 (by decide)
  change (fun v w' => Own w' w0.heap.size 5 v ((putB t.1).map bv)) (g 28) wE at gE28
  try dsimp only at gE28
  have gE29 := hGE 29 (by decide)
  change (fun v _ => v = Value.string (bs (putB t.1))) (g 29) wE at gE29
  have gE30 := hGE 30 (by decide)
  change (fun v _ => v = Value.pointer (some ⟨c, 1, none⟩)) (g 30) wE at gE30
  have gE31 := hGE 31 (by decide)
  change (fun v _ => v = Value.int .u64 (u t.2)) (g 31) wE at gE31
  have gE32 := hGE 32 (by decide)
  change (fun v w' => Own w' w0.heap.size 5 v ((putB t.2).map bv)) (g 32) wE at gE32
  try dsimp only at gE32
  have gE33 := hGE 33 (by decide)
  change (fun v _ => v = Value.string (bs (putB t.2))) (g 33) wE at gE33
  have gE34 := hGE 34 (by decide)
  change (fun v _ => v = Value.string (bs (tagB t))) (g 34) wE at gE34
  have gE35 := hGE 35 (by decide)
  change (fun v _ => v = Value.bool true) (g 35) wE at gE35
  have gE36 := hGE 36 (by decide)
  change (fun v _ => v = Value.bool true) (g 36) wE at gE36
  have gE37 := hGE 37 (by decide)
  change (fun v _ => v = Value.bool true) (g 37) wE at gE37
  simp only [fillA, Act.put, List.setIfInBounds_toArray, List.set_cons_zero, List.set_cons_succ, gE0, gE1, gE2, gE3, gE4, gE5, gE6, gE7, gE8, gE9, gE10, gE11, gE12, gE13, gE14, gE15, gE16, gE17, gE18, gE19, gE20, gE21, gE22, gE23, gE25, gE26, gE27, gE29, gE30, gE31, gE33, gE34, gE35, gE36, gE37]
  clear hGE gE0 gE1 gE2 gE3 gE4 gE5 gE6 gE7 gE8 gE9 gE10 gE11 gE12 gE13 gE14 gE15 gE16 gE17 gE18 gE19 gE20 gE21 gE22 gE23 gE25 gE26 gE27 gE29 gE30 gE31 gE33 gE34 gE35 gE36 gE37
  generalize g 24 = vE24 at *
  generalize g 28 = vE28 at *
  generalize g 32 = vE32 at *
  go_wp2
  go_ret
  exact ⟨rfl, HFb.out.trans hUE⟩

namespace macWords
open Go Go.ChangeShapes Go.WideShapes Go.ChangeAt Go.RowKit
set_option linter.unusedVariables false
set_option maxRecDepth 100000 in
theorem lifted (os : Os) (started : os.Started) (H : Type) (enc : TypeId × Value → H) :
    ReturnsInHanded {} Try.checked os 13 .any (Rows.macWordsSpec.pre6 enc Try.prog Try.f13 Rows.macWordsRow.domain false) (Rows.macWordsSpec.post enc Try.prog Try.f13 false true false false) := by
  refine returnsInHanded_of_change (C := Try.checked) owned started (by kernel_rfl) Try.func13
    (ChangeSpec.witness6 (enc := enc) (C := Try.checked) false ⟨#[], #[.agg #[.int .u64 0, .int .u64 0], .slice none 0 0], []⟩ 8 (by kernel_rfl) (by kernel_rfl) (by kernel_rfl) (by kernel_rfl)) ?_
  intro W base args ds gs before hval0 hW hcnd _
  have hval : ∀ (j : Nat) t v, Try.f13.params[j]? = some t → args[j]? = some v → Value.okWide Try.prog W .any base t v := hval0
  have hW' := hW
  obtain ⟨p, q, hA0, hV, rfl, hfz, hnd⟩ := hW
  have hA : DataW.TrodAll enc Try.prog W 0 (fun _ => true) true Try.f13.params.toList args.toList ds p := hA0
  rw [Try.params13] at hA hval
  obtain ⟨v0, vs0, d0, ds0, p0, q0, hargs, rfl, rfl, h0, r0⟩ := trodAll_cons hA
  obtain ⟨v1, vs1, d1, ds1, p1, q1, rfl, rfl, rfl, h1, r1⟩ := trodAll_cons r0
  obtain ⟨rfl, rfl, rfl⟩ := trodAll_nil r1
  obtain rfl : args = #[v0, v1] := by cases args; simp_all
  obtain ⟨rfl, rfl⟩ := trodVars_none hV
  have k0 := h0
  have lt0 : ∀ x ∈ p0, x.block < W.heap.size := by obtain ⟨m, hm⟩ := k0; exact DataW.trod_lt m _ _ _ hm
  have k1 := h1
  have lt1 : ∀ x ∈ p1, x.block < W.heap.size := by obtain ⟨m, hm⟩ := k1; exact DataW.trod_lt m _ _ _ hm
  obtain ⟨x0, rfl⟩ := open_arr2 Try.underlying23 Try.underlying22 (by kernel_rfl) (by kernel_rfl) (hval 0 23 v0 rfl rfl) h0
  obtain ⟨x1, hr1⟩ := open_bytes Try.underlying25 Try.underlying5 (by kernel_rfl) (hval 1 25 v1 rfl rfl) h1
  clear hA0 hval0
  refine (walk_MacWords W x0 v1 x1 hr1).mono fun e W' ⟨he, fr⟩ => ?_
  subst he
  have bel := fr.below
  exact ⟨_, rfl, _, _, _, [], _, [], hW', trodAll_mk1 (shut_bool Try.underlying4 _), (trodAll_cons_mk (Below.trod laid (by kernel_rfl) (of_decide_eq_true (by kernel_rfl)) k0 bel lt0) (trodAll_cons_mk (Below.trod laid (by kernel_rfl) (of_decide_eq_true (by kernel_rfl)) k1 bel lt1) trodAll_mk0)), rfl, bel.frame _, fun h => by cases h⟩

theorem inPlace : Try.prog.inPlace 13 = [] := inPlace_none _ _ (by kernel_rfl)
theorem closed : joinedFacts Try.prog 13 Try.f13 Rows.macWordsSpec Rows.macWordsRow = true := by
  unfold joinedFacts
  repeat' (with_reducible refine and_mk ?_ ?_)
  all_goals first
    | with_reducible exact enters
    | with_reducible exact laid
    | with_reducible exact rowed
    | with_reducible exact noStops
    | with_reducible exact noKnobs
    | with_reducible exact heard
    | (rw [lifts]; as_aux_lemma => kernel_rfl)
    | (rw [makes]; as_aux_lemma => kernel_rfl)
    | (rw [plains]; as_aux_lemma => kernel_rfl)
    | (rw [inPlace]; as_aux_lemma => kernel_rfl)
    | as_aux_lemma => kernel_rfl
theorem named : Try.prog.funcNamed Rows.macWordsRow.func = some 13 := by kernel_rfl
theorem isOne : (Try.f13).isInstance Try.prog Rows.macWordsRow.origin Rows.macWordsRow.targs := of_decide_eq_true (by kernel_rfl)
theorem wraps : (Try.f13).isWrapper Try.prog Rows.macWordsRow.wrapper Rows.macWordsRow.mainSum := by unfold Func.isWrapper; first | (rw [if_pos (by decide +kernel)]; kernel_rfl) | (rw [if_neg (by decide +kernel)]; exact ⟨rfl, rfl⟩)
theorem over : Rows.macWordsRow.holds Try.pinned (OpenSpec.ofChange Rows.macWordsSpec) :=
  OpenClaim.holds_of_wide 13 Try.f13 rfl rfl rfl rfl rfl rfl rfl ⟨rfl, rfl, rfl, rfl, rfl⟩ rfl rfl rfl rfl rfl named Try.func13 closed
    isOne wraps
    (fun os started H enc _ => lifted os started H enc)

/-- THE STATEMENT. -/
theorem proved : Rows.MacWordsSaid := over
#print axioms proved
end macWords
end Go.Proofs.Ytandenkoejbloaa
