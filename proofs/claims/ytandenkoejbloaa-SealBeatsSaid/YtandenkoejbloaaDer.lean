/- Walks of mac.Derive, mac.Root, mac.Of. -/
import Derived.Test.YtandenkoejbloaaMac2
import Derived.Test.YtandenkoejbloaaCat
import Derived.Test.YtandenkoejbloaaFlow
import Derived.Test.YtandenkoejbloaaMsg
namespace Go.Proofs.Ytandenkoejbloaa
open Go Go.RowKit

/-- The slice value v reads as rows of bytes, that are l joined; all lie from B on. -/
def RowsAt (w : World) (B : Nat) (v : Value) (l : List UInt8) : Prop :=
  ∃ L : List (Value × List UInt8), Rd w v (L.map (·.1)) ∧ (∀ k, v.ownBlock = some k → B ≤ k) ∧ (∀ q ∈ L, Own w B 5 q.1 (q.2.map bv)) ∧ L.flatMap (·.2) = l
theorem Own.keptB {S : Nat → Prop} {w w' : World} {B : Nat} {e : TypeId} {v : Value} {vs : List Value} (h : Own w B e v vs) (hf : Fr S w w') (hS : ∀ k, S k → k < B) : Own w' B e v vs :=
  h.kept hf (fun k hk s => absurd (h.blk k hk).1 (Nat.not_le.2 (hS k s)))
theorem RowsAt.keptB {S : Nat → Prop} {w w' : World} {B : Nat} {v : Value} {l : List UInt8} (h : RowsAt w B v l) (hf : Fr S w w') (hS : ∀ k, S k → k < B) : RowsAt w' B v l := by
  obtain ⟨L, h1, h2, h3, h4⟩ := h
  exact ⟨L, h1.kept hf (fun k hk _ _ s => absurd (h2 k hk) (Nat.not_le.2 (hS k s))), h2, fun q hq => (h3 q hq).keptB hf hS, h4⟩

def deriveW (k : W × W) (l : List UInt8) (n : W) : W × W := (sumW k (l ++ [1] ++ putB n), sumW k (l ++ [2] ++ putB n))
/-- 'root', 'who', 'gen'. -/
def rootL : List UInt8 := [114, 111, 111, 116]
def whoL : List UInt8 := [119, 104, 111]
def genL : List UInt8 := [103, 101, 110]
def rootW (seed : W) : W × W := deriveW (seed, seed + 1) rootL 0
def ofW (seed : W) (who gen : Int) : W × W := deriveW (deriveW (rootW seed) whoL (wi who)) genL (wi gen)
def derB (l : List UInt8) (n : W) (j : Nat) : List UInt8 := l ++ [UInt8.ofNat (j + 1)] ++ putB n
theorem der0 (k : W × W) (l : List UInt8) (n : W) : sumW k (derB l n 0) = (deriveW k l n).1 := by
  have h : derB l n 0 = l ++ [1] ++ putB n := rfl
  rw [h]; rfl
theorem der1 (k : W × W) (l : List UInt8) (n : W) : sumW k (derB l n 1) = (deriveW k l n).2 := by
  have h : derB l n 1 = l ++ [2] ++ putB n := rfl
  rw [h]; rfl
theorem derB_length (l : List UInt8) (n : W) (j : Nat) : (derB l n j).length = l.length + 9 := by simp [derB, putB_length]
def derCells (k : W × W) (l : List UInt8) (n : W) (j : Nat) : List Value := [.int .u64 (u (if 0 < j then sumW k (derB l n 0) else 0)), .int .u64 (u (if 1 < j then sumW k (derB l n 1) else 0))]
theorem derCells_set (k : W × W) (l : List UInt8) (n : W) (j : Nat) (h : j < 2) : (derCells k l n j).set j (.int .u64 (u (sumW k (derB l n j)))) = derCells k l n (j + 1) := by
  rcases (show j = 0 ∨ j = 1 by omega) with rfl | rfl <;> rfl
theorem derCells_at (k : W × W) (l : List UInt8) (n : W) (j : Nat) (h : j < 2) : (derCells k l n j)[j]? = some (.int .u64 0) := by
  rcases (show j = 0 ∨ j = 1 by omega) with rfl | rfl <;> rfl

set_option maxRecDepth 100000 in
set_option maxHeartbeats 6400000 in
theorem derive_any (k : W × W) (l : List UInt8) (n : W) (w : World) (hl : l.length ≤ 140737488350000) :
    Calls Try.prog 45 #[keyv k, .string (bs l), .int .u64 (u n)] w fun e w' => e = .returned (keyv (deriveW k l n)) ∧ Fr none_ w w' := by
  obtain ⟨i0, hi, hz0, hz1, hz2⟩ := info_parts info_u8
  unfold keyv
  have hK := ((Blk.new w #[.int .u64 (u k.1), .int .u64 (u k.2)] 56).alloc (.cells #[.int .u64 0, .int .u64 0] 56)).alloc (.cells #[.int .u64 0, .int .u64 0] 56)
  have hR := (Blk.new (w.alloc (.cells #[.int .u64 (u k.1), .int .u64 (u k.2)] 56)) #[.int .u64 0, .int .u64 0] 56).alloc (.cells #[.int .u64 0, .int .u64 0] 56)
  have hT := Blk.new ((w.alloc (.cells #[.int .u64 (u k.1), .int .u64 (u k.2)] 56)).alloc (.cells #[.int .u64 0, .int .u64 0] 56)) #[.int .u64 0, .int .u64 0] 56
  simp only [World.size_alloc] at hR hT
  have hF := (((Fr.refl none_ w).alloc (.cells #[.int .u64 (u k.1), .int .u64 (u k.2)] 56)).alloc (.cells #[.int .u64 0, .int .u64 0] 56)).alloc (.cells #[.int .u64 0, .int .u64 0] 56)
  go_enter Try.func45, Try.ntmps45
  go_wp2_with fail
  generalize ((w.alloc (.cells #[.int .u64 (u k.1), .int .u64 (u k.2)] 56)).alloc (.cells #[.int .u64 0, .int .u64 0] 56)).alloc (.cells #[.int .u64 0, .int .u64 0] 56) = w0 at *
  go_loopw [9] (fun i wr => ∃ j : Nat, j ≤ 2 ∧ i = .int .i64 j ∧ Blk wr (w.heap.size + 1 + 1) 56 (derCells k l n j) ∧ Blk wr (w.heap.size + 1) 56 [.int .u64 0, .int .u64 0] ∧ Blk wr w.heap.size 56 [.int .u64 (u k.1), .int .u64 (u k.2)] ∧ Fr none_ w wr) (fun i _ => 2 - (intOf i).toNat)
  case atStart => exact ⟨0, by omega, rfl, hT, hR, hK, hF⟩
  case round =>
    clear hT hR hK hF
    obtain ⟨j, hj, rfl, hT, hR, hK, hF⟩ := hrel
    by_cases hlt : j < 2
    · have hlk : (j : Int) < 2 := by omega
      have hob := hT.lt
      have hT0 := derCells_at k l n j hlt
      have hTs := derCells_set k l n j hlt
      have hw1 : IntKind.i64.wrap ((j : Int) + 1) = ((j + 1 : Nat) : Int) := by rw [IntWalk.i64_in _ (by omega)]; omega
      have hw2 : IntKind.u8.wrap ((j + 1 : Nat) : Int) = v8 (UInt8.ofNat (j + 1)) := by
        rcases (show j = 0 ∨ j = 1 by omega) with rfl | rfl <;> decide
      have hw3 : IntKind.u8.wrap ((j : Int) + 1) = v8 (UInt8.ofNat (j + 1)) := hw2
      have hdl := derB_length l n j
      have hL := Lib.hid (show derB l n j = l ++ [UInt8.ofNat (j + 1)] ++ putB n from rfl)
      have hL := hL
      have hC1s : (derCells k l n (j + 1)).set j (.int .u64 (u (sumW k (derB l n j)))) = derCells k l n (j + 1) := by rcases (show j = 0 ∨ j = 1 by omega) with rfl | rfl <;> rfl
      have hC1a : (derCells k l n (j + 1))[j]? = some (.int .u64 (u (sumW k (derB l n j)))) := by rcases (show j = 0 ∨ j = 1 by omega) with rfl | rfl <;> rfl
      generalize hbb : UInt8.ofNat (j + 1) = bb at *
      generalize hX : derB l n j = X at *
      generalize hC0 : derCells k l n j = C0 at *
      generalize hC1 : derCells k l n (j + 1) = C1 at *
      have HKc := Lib.hid (show wr.cell? ⟨w.heap.size, 0, none⟩ = some (.int .u64 (u k.1)) ∧ wr.cell? ⟨w.heap.size, 1, none⟩ = some (.int .u64 (u k.2)) from ⟨hK.cell_of rfl, hK.cell_of rfl⟩)
      have hUn : ∀ a b : World, (Fr (fun i => i = w.heap.size + 1 + 1) wr a ∧ (Blk a (w.heap.size + 1 + 1) 56 C0 ∨ Blk a (w.heap.size + 1 + 1) 56 C1)) → Fr none_ a b → (Fr (fun i => i = w.heap.size + 1 + 1) wr b ∧ (Blk b (w.heap.size + 1 + 1) 56 C0 ∨ Blk b (w.heap.size + 1 + 1) 56 C1)) :=
        fun a b hu hf => ⟨hu.1.step hf (fun _ _ f => f.elim), hu.2.imp (fun h => h.kept hf (fun f => f)) (fun h => h.kept hf (fun f => f))⟩
      have hSn : ∀ a b : World, Fr none_ a b → (Fr (fun i => i = w.heap.size + 1 + 1) a b ∧ (Blk a (w.heap.size + 1 + 1) 56 C1 → Blk b (w.heap.size + 1 + 1) 56 C1)) :=
        fun a b hf => ⟨hf.mono (fun _ _ f => f.elim), fun h => h.kept hf (fun f => f)⟩
      have hSr : ∀ a : World, (Fr (fun i => i = w.heap.size + 1 + 1) a a ∧ (Blk a (w.heap.size + 1 + 1) 56 C1 → Blk a (w.heap.size + 1 + 1) 56 C1)) := fun a => ⟨Fr.refl _ a, fun h => h⟩
      go_wp2_with fail
      refine region_flow [0, 0, 0, 4, 0, 16, 32, 64, 0, 256, 648, 1536, 2050, 8191, 16383] [0, 0, 0, 4, 0, 16, 48, 112, 0, 256, 1020, 2044, 4094, 8191, 16383] (fun w' => Fr (fun i => i = w.heap.size + 1 + 1) wr w' ∧ (Blk w' (w.heap.size + 1 + 1) 56 C0 ∨ Blk w' (w.heap.size + 1 + 1) 56 C1)) (gl [(fun v _ => v = Value.int .i64 (j : Nat)), (fun v _ => v = Value.agg #[.int .u64 (u k.1), .int .u64 (u k.2)]), (fun v _ => v = Value.string (bs l)), (fun v w' => Own w' wr.heap.size 5 v (l.map bv)), (fun v _ => v = Value.int .i64 (j : Nat)), (fun v _ => v = Value.int .i64 ((j + 1 : Nat) : Int)), (fun v _ => v = Value.int .u8 (v8 (bb))), (fun v w' => Own w' wr.heap.size 5 v ([bb].map bv)), (fun v _ => v = Value.int .u64 (u n)), (fun v w' => Own w' wr.heap.size 5 v ((putB n).map bv)), (fun v w' => RowsAt w' wr.heap.size v X), (fun v w' => Own w' wr.heap.size 5 v (X.map bv)), (fun v _ => v = Value.int .u64 (u (sumW k X))), (fun v _ => v = Value.pointer (some ⟨w.heap.size + 1 + 1, j, none⟩)), (fun _ w' => Blk w' (w.heap.size + 1 + 1) 56 C1)]) (fun a b => Fr (fun i => i = w.heap.size + 1 + 1) a b ∧ (Blk a (w.heap.size + 1 + 1) 56 C1 → Blk b (w.heap.size + 1 + 1) 56 C1)) 28 (by as_aux_lemma => kernel_rfl) rfl rfl (by as_aux_lemma => kernel_rfl) (by as_aux_lemma => kernel_rfl) (by as_aux_lemma => kernel_rfl) (by as_aux_lemma => kernel_rfl) (gl_stable _ ?FS) ?FU ?FH ?FQ
      case FS =>
        simp only [List.forall_mem_cons]
        refine ⟨?_, ?_, ?_, ?_, ?_, ?_, ?_, ?_, ?_, ?_, ?_, ?_, ?_, ?_, ?_, fun g hg => by cases hg⟩
        all_goals (intro v w w' hs h; first | exact h | (first | exact h.keptB hs.1 (fun k e => by rw [e]; exact hob) | exact hs.2 h))
      case FU => exact ⟨(Fr.refl _ wr).drew, .inl hT.drew⟩
      case FH =>
        refine ⟨?_, ?_, ?_, ?_, ?_, ?_, ?_, ?_, ?_, ?_, ?_, ?_, ?_, ?_, ?_, trivial⟩
        · intro ho aF wF hU hF
          have e8 : aF.eval (.tmp 8) = Value.int .i64 (j : Nat) := hF.out 8 (by kernel_rfl)
          refine flow_see ho rfl (fun _ _ h => by cases h) ⟨#[undef, undef, undef, undef, undef, undef, undef, undef, (Value.int .i64 (j : Nat)), undef, undef, undef, undef], []⟩ (by simp only [Op.operands, Call.operands]; simp; try simp only [e8] ; try (repeat' (first | refine ⟨?_, ?_⟩ | rfl))) (v := Value.int .i64 (j : Nat)) ?_ hU ?_ (hSr wF)
          · (go_simp <;> with_reducible rfl)
          · exact rfl
        · intro ho aF wF hU hF
          have e3 : aF.eval (.tmp 3) = Value.pointer (some ⟨w.heap.size, 0, none⟩) := hF.out 3 (by kernel_rfl)
          refine flow_see ho rfl (fun _ _ h => by cases h) ⟨#[undef, undef, undef, (Value.pointer (some ⟨w.heap.size, 0, none⟩)), undef, undef, undef, undef, undef, undef, undef, undef, undef, undef], []⟩ (by simp only [Op.operands, Call.operands]; simp; try simp only [e3] ; try (repeat' (first | refine ⟨?_, ?_⟩ | rfl))) (v := Value.agg #[.int .u64 (u k.1), .int .u64 (u k.2)]) ?_ hU ?_ (hSr wF)
          · (obtain ⟨hf, _⟩ := hU; have c0 := (hf.cell (p := ⟨w.heap.size, 0, none⟩) (by show w.heap.size < _; omega) (fun e => by have e : w.heap.size = w.heap.size + 1 + 1 := e; omega)).trans HKc.out.1; have c1 := (hf.cell (p := ⟨w.heap.size, 1, none⟩) (by show w.heap.size < _; omega) (fun e => by have e : w.heap.size = w.heap.size + 1 + 1 := e; omega)).trans HKc.out.2; go_simp)
          · exact rfl
        · intro ho aF wF hU hF
          have e1 : aF.eval (.tmp 1) = Value.string (bs l) := hF.out 1 (by kernel_rfl)
          refine flow_see ho rfl (fun _ _ h => by cases h) ⟨#[undef, (Value.string (bs l)), undef, undef, undef, undef, undef, undef, undef, undef, undef, undef, undef, undef, undef], []⟩ (by simp only [Op.operands, Call.operands]; simp; try simp only [e1] ; try (repeat' (first | refine ⟨?_, ?_⟩ | rfl))) (v := Value.string (bs l)) ?_ hU ?_ (hSr wF)
          · (go_simp <;> with_reducible rfl)
          · exact rfl
        · intro ho aF wF hU hF
          obtain ⟨v2, g2, e14⟩ := hF.at_ 2 (by kernel_rfl) rfl rfl
          change (fun v _ => v = Value.string (bs l)) v2 wF at g2
          replace e14 := e14.trans g2
          refine flow_at ho rfl (fun _ _ h => by cases h) ⟨#[undef, undef, undef, undef, undef, undef, undef, undef, undef, undef, undef, undef, undef, undef, (Value.string (bs l)), undef], []⟩ (fun d h => by cases h; exact (by decide : (15 : Nat) < 16)) (by simp only [Op.operands, Call.operands]; simp; try simp only [e14] ; try (repeat' (first | refine ⟨?_, ?_⟩ | rfl))) (fun K hK => ?_)
          refine wp_bytes (.tmp 14) 9 25 5 rfl Try.underlying9 Try.underlying25 Try.underlying5 l (by unfold maxLen; omega) rfl wr.heap.size hU.1.size (fun v1 w1 ho1 hf1 hk1 => ?_)
          exact hK.out v1 w1 _ rfl (hUn _ _ hU hf1) ho1 (hSn _ _ hf1)
        · intro ho aF wF hU hF
          have e8 : aF.eval (.tmp 8) = Value.int .i64 (j : Nat) := hF.out 8 (by kernel_rfl)
          refine flow_see ho rfl (fun _ _ h => by cases h) ⟨#[undef, undef, undef, undef, undef, undef, undef, undef, (Value.int .i64 (j : Nat)), undef, undef, undef, undef, undef, undef, undef, undef], []⟩ (by simp only [Op.operands, Call.operands]; simp; try simp only [e8] ; try (repeat' (first | refine ⟨?_, ?_⟩ | rfl))) (v := Value.int .i64 (j : Nat)) ?_ hU ?_ (hSr wF)
          · (go_simp <;> with_reducible rfl)
          · exact rfl
        · intro ho aF wF hU hF
          obtain ⟨v4, g4, e16⟩ := hF.at_ 4 (by kernel_rfl) rfl rfl
          change (fun v _ => v = Value.int .i64 (j : Nat)) v4 wF at g4
          replace e16 := e16.trans g4
          refine flow_see ho rfl (fun _ _ h => by cases h) ⟨#[undef, undef, undef, undef, undef, undef, undef, undef, undef, undef, undef, undef, undef, undef, undef, undef, (Value.int .i64 (j : Nat)), undef], []⟩ (by simp only [Op.operands, Call.operands]; simp; try simp only [e16] ; try (repeat' (first | refine ⟨?_, ?_⟩ | rfl))) (v := Value.int .i64 ((j + 1 : Nat) : Int)) ?_ hU ?_ (hSr wF)
          · (go_simp <;> with_reducible rfl)
          · exact rfl
        · intro ho aF wF hU hF
          obtain ⟨v5, g5, e17⟩ := hF.at_ 5 (by kernel_rfl) rfl rfl
          change (fun v _ => v = Value.int .i64 ((j + 1 : Nat) : Int)) v5 wF at g5
          replace e17 := e17.trans g5
          refine flow_see ho rfl (fun _ _ h => by cases h) ⟨#[undef, undef, undef, undef, undef, undef, undef, undef, undef, undef, undef, undef, undef, undef, undef, undef, undef, (Value.int .i64 ((j + 1 : Nat) : Int)), undef], []⟩ (by simp only [Op.operands, Call.operands]; simp; try simp only [e17] ; try (repeat' (first | refine ⟨?_, ?_⟩ | rfl))) (v := Value.int .u8 (v8 (bb))) ?_ hU ?_ (hSr wF)
          · (go_simp <;> with_reducible rfl)
          · exact rfl
        · intro ho aF wF hU hF
          obtain ⟨v6, g6, e18⟩ := hF.at_ 6 (by kernel_rfl) rfl rfl
          change (fun v _ => v = Value.int .u8 (v8 (bb))) v6 wF at g6
          replace e18 := e18.trans g6
          refine flow_at ho rfl (fun _ _ h => by cases h) ⟨#[undef, undef, undef, undef, undef, undef, undef, undef, undef, undef, undef, undef, undef, undef, undef, undef, undef, undef, (Value.int .u8 (v8 (bb))), undef], []⟩ (fun d h => by cases h; exact (by decide : (19 : Nat) < 20)) (by simp only [Op.operands, Call.operands]; simp; try simp only [e18] ; try (repeat' (first | refine ⟨?_, ?_⟩ | rfl))) (fun K hK => ?_)
          go_simp
          have hf1 := (Fr.refl none_ wF).alloc (.cells #[bv (bb)] 5)
          exact hK.out _ _ _ rfl (hUn _ _ hU hf1) (own_made wF [bv (bb)] 5 (by show 1 ≤ maxLen; decide) wr.heap.size hU.1.size) (hSn _ _ hf1)
        · intro ho aF wF hU hF
          have e2 : aF.eval (.tmp 2) = Value.int .u64 (u n) := hF.out 2 (by kernel_rfl)
          refine flow_see ho rfl (fun _ _ h => by cases h) ⟨#[undef, undef, (Value.int .u64 (u n)), undef, undef, undef, undef, undef, undef, undef, undef, undef, undef, undef, undef, undef, undef, undef, undef, undef, undef], []⟩ (by simp only [Op.operands, Call.operands]; simp; try simp only [e2] ; try (repeat' (first | refine ⟨?_, ?_⟩ | rfl))) (v := Value.int .u64 (u n)) ?_ hU ?_ (hSr wF)
          · (go_simp <;> with_reducible rfl)
          · exact rfl
        · intro ho aF wF hU hF
          obtain ⟨vq8, g8, e20⟩ := hF.at_ 8 (by kernel_rfl) rfl rfl
          change (fun v _ => v = Value.int .u64 (u n)) vq8 wF at g8
          replace e20 := e20.trans g8
          refine flow_at ho rfl (fun _ _ h => by cases h) ⟨#[undef, undef, undef, undef, undef, undef, undef, undef, undef, undef, undef, undef, undef, undef, undef, undef, undef, undef, undef, undef, (Value.int .u64 (u n)), undef], []⟩ (fun d h => by cases h; exact (by decide : (21 : Nat) < 22)) (by simp only [Op.operands, Call.operands]; simp; try simp only [e20] ; try (repeat' (first | refine ⟨?_, ?_⟩ | rfl))) (fun K hK => ?_)
          go_simp
          go_wp2_with (go_at_call 34; refine (put_any n _).mono ?_; rintro e w1 ⟨v1, rfl, ho1, hf1⟩)
          exact hK.out v1 w1 _ rfl (hUn _ _ hU hf1) (ho1.mono hU.1.size) (hSn _ _ hf1)
        · intro ho aF wF hU hF
          obtain ⟨v3, g3, e15⟩ := hF.at_ 3 (by kernel_rfl) rfl rfl
          change (fun v w' => Own w' wr.heap.size 5 v (l.map bv)) v3 wF at g3
          try dsimp only at g3
          obtain ⟨v7, g7, e19⟩ := hF.at_ 7 (by kernel_rfl) rfl rfl
          change (fun v w' => Own w' wr.heap.size 5 v ([bb].map bv)) v7 wF at g7
          try dsimp only at g7
          obtain ⟨v9, g9, e21⟩ := hF.at_ 9 (by kernel_rfl) rfl rfl
          change (fun v w' => Own w' wr.heap.size 5 v ((putB n).map bv)) v9 wF at g9
          try dsimp only at g9
          refine flow_at ho rfl (fun _ _ h => by cases h) ⟨#[undef, undef, undef, undef, undef, undef, undef, undef, undef, undef, undef, undef, undef, undef, undef, (v3), undef, undef, undef, (v7), undef, (v9), undef], []⟩ (fun d h => by cases h; exact (by decide : (22 : Nat) < 23)) (by simp only [Op.operands, Call.operands]; simp; try simp only [e15, e19, e21] ; try (repeat' (first | refine ⟨?_, ?_⟩ | rfl))) (fun K hK => ?_)
          obtain ⟨a3, c3, rfl, _, _⟩ := g3.shape
          obtain ⟨a7, c7, rfl, _, _⟩ := g7.shape
          obtain ⟨a9, c9, rfl, _, _⟩ := g9.shape
          generalize (l.map bv).length = n3 at *
          generalize ([bb].map bv).length = n7 at *
          generalize ((putB n).map bv).length = n9 at *
          go_simp
          have hf1 := (Fr.refl none_ wF).alloc (.cells #[.slice a3 n3 c3, .slice a7 n7 c7, .slice a9 n9 c9] 25)
          exact hK.out (.slice (some ⟨wF.heap.size, 0, none⟩) 3 3) _ _ rfl (hUn _ _ hU hf1) ⟨[(.slice a3 n3 c3, l), (.slice a7 n7 c7, [bb]), (.slice a9 n9 c9, putB n)], rd_made wF [.slice a3 n3 c3, .slice a7 n7 c7, .slice a9 n9 c9] 25 (by show 3 ≤ maxLen; decide), (fun k hk => by simp [Value.ownBlock] at hk; have := hU.1.size; omega), (by simp only [List.mem_cons, List.not_mem_nil, or_false, forall_eq_or_imp, forall_eq]; exact ⟨g3.alloc _, g7.alloc _, g9.alloc _⟩), (by rw [hL.out]; simp)⟩ (hSn _ _ hf1)
        · intro ho aF wF hU hF
          obtain ⟨v10, g10, e22⟩ := hF.at_ 10 (by kernel_rfl) rfl rfl
          change (fun v w' => RowsAt w' wr.heap.size v X) v10 wF at g10
          try dsimp only at g10
          refine flow_at ho rfl (fun _ _ h => by cases h) ⟨#[undef, undef, undef, undef, undef, undef, undef, undef, undef, undef, undef, undef, undef, undef, undef, undef, undef, undef, undef, undef, undef, undef, (v10), undef], []⟩ (fun d h => by cases h; exact (by decide : (23 : Nat) < 24)) (by simp only [Op.operands, Call.operands]; simp; try simp only [e22] ; try (repeat' (first | refine ⟨?_, ?_⟩ | rfl))) (fun K hK => ?_)
          obtain ⟨L, hl1, hl2, hl3, hl4⟩ := g10
          go_simp
          go_wp2_with (go_at_call 91; refine (concat_any v10 L _ hl1 (fun q hq => (hl3 q hq).rd) (by rw [hl4, hdl]; omega)).mono ?_; rintro e w1 ⟨v1, rfl, ho1, hf1⟩)
          rw [hl4] at ho1
          exact hK.out v1 w1 _ rfl (hUn _ _ hU hf1) (ho1.mono hU.1.size) (hSn _ _ hf1)
        · intro ho aF wF hU hF
          obtain ⟨v1, g1, e13⟩ := hF.at_ 1 (by kernel_rfl) rfl rfl
          change (fun v _ => v = Value.agg #[.int .u64 (u k.1), .int .u64 (u k.2)]) v1 wF at g1
          replace e13 := e13.trans g1
          obtain ⟨v11, g11, e23⟩ := hF.at_ 11 (by kernel_rfl) rfl rfl
          change (fun v w' => Own w' wr.heap.size 5 v (X.map bv)) v11 wF at g11
          try dsimp only at g11
          refine flow_at ho rfl (fun _ _ h => by cases h) ⟨#[undef, undef, undef, undef, undef, undef, undef, undef, undef, undef, undef, undef, undef, (Value.agg #[.int .u64 (u k.1), .int .u64 (u k.2)]), undef, undef, undef, undef, undef, undef, undef, undef, undef, (v11), undef], []⟩ (fun d h => by cases h; exact (by decide : (24 : Nat) < 25)) (by simp only [Op.operands, Call.operands]; simp; try simp only [e13, e23] ; try (repeat' (first | refine ⟨?_, ?_⟩ | rfl))) (fun K hK => ?_)
          go_simp
          go_wp2_with (go_at_call 32; refine (ssum_any k v11 X _ g11.rd (by omega)).mono ?_; rintro e w1 ⟨rfl, hf1⟩)
          exact hK.out _ w1 _ rfl (hUn _ _ hU hf1) rfl (hSn _ _ hf1)
        · intro ho aF wF hU hF
          have e7 : aF.eval (.tmp 7) = Value.pointer (some ⟨w.heap.size + 1 + 1, 0, none⟩) := hF.out 7 (by kernel_rfl)
          obtain ⟨v0, g0, e12⟩ := hF.at_ 0 (by kernel_rfl) rfl rfl
          change (fun v _ => v = Value.int .i64 (j : Nat)) v0 wF at g0
          replace e12 := e12.trans g0
          refine flow_see ho rfl (fun _ _ h => by cases h) ⟨#[undef, undef, undef, undef, undef, undef, undef, (Value.pointer (some ⟨w.heap.size + 1 + 1, 0, none⟩)), undef, undef, undef, undef, (Value.int .i64 (j : Nat)), undef, undef, undef, undef, undef, undef, undef, undef, undef, undef, undef, undef, undef], []⟩ (by simp only [Op.operands, Call.operands]; simp; try simp only [e7, e12] ; try (repeat' (first | refine ⟨?_, ?_⟩ | rfl))) (v := Value.pointer (some ⟨w.heap.size + 1 + 1, j, none⟩)) ?_ hU ?_ (hSr wF)
          · (go_simp <;> with_reducible rfl)
          · exact rfl
        · intro ho aF wF hU hF
          obtain ⟨v13, g13, e25⟩ := hF.at_ 13 (by kernel_rfl) rfl rfl
          change (fun v _ => v = Value.pointer (some ⟨w.heap.size + 1 + 1, j, none⟩)) v13 wF at g13
          replace e25 := e25.trans g13
          obtain ⟨v12, g12, e24⟩ := hF.at_ 12 (by kernel_rfl) rfl rfl
          change (fun v _ => v = Value.int .u64 (u (sumW k X))) v12 wF at g12
          replace e24 := e24.trans g12
          refine flow_at ho rfl (fun _ _ h => by cases h) ⟨#[undef, undef, undef, undef, undef, undef, undef, undef, undef, undef, undef, undef, undef, undef, undef, undef, undef, undef, undef, undef, undef, undef, undef, undef, (Value.int .u64 (u (sumW k X))), (Value.pointer (some ⟨w.heap.size + 1 + 1, j, none⟩))], []⟩ (fun d h => by cases h) (by simp only [Op.operands, Call.operands]; simp; try simp only [e25, e24] ; try (repeat' (first | refine ⟨?_, ?_⟩ | rfl))) (fun K hK => ?_)
          have hf1 := (Fr.refl (fun i => i = w.heap.size + 1 + 1) wF).setCell (p := ⟨w.heap.size + 1 + 1, j, none⟩) (fun _ => rfl) (.int .u64 (u (sumW k X)))
          obtain ⟨hf, hb | hb⟩ := hU
          · have cc := hb.cell_of hT0
            have ff := hb.free j
            have hb1 := hb.setCell j (.int .u64 (u (sumW k X)))
            rw [hTs] at hb1
            go_simp
            exact hK.out undef _ _ rfl ⟨hf.trans hf1, .inr hb1⟩ hb1 ⟨hf1, fun _ => hb1⟩
          · have cc := hb.cell_of hC1a
            have ff := hb.free j
            have hb1 := hb.setCell j (.int .u64 (u (sumW k X)))
            rw [hC1s] at hb1
            go_simp
            exact hK.out undef _ _ rfl ⟨hf.trans hf1, .inr hb1⟩ hb1 ⟨hf1, fun _ => hb1⟩
      intro g wE hUE hGE
      have gE0 := hGE 0 (by decide)
      change (fun v _ => v = Value.int .i64 (j : Nat)) (g 0) wE at gE0
      have gE1 := hGE 1 (by decide)
      change (fun v _ => v = Value.agg #[.int .u64 (u k.1), .int .u64 (u k.2)]) (g 1) wE at gE1
      have gE2 := hGE 2 (by decide)
      change (fun v _ => v = Value.string (bs l)) (g 2) wE at gE2
      have gE3 := hGE 3 (by decide)
      change (fun v w' => Own w' wr.heap.size 5 v (l.map bv)) (g 3) wE at gE3
      try dsimp only at gE3
      have gE4 := hGE 4 (by decide)
      change (fun v _ => v = Value.int .i64 (j : Nat)) (g 4) wE at gE4
      have gE5 := hGE 5 (by decide)
      change (fun v _ => v = Value.int .i64 ((j + 1 : Nat) : Int)) (g 5) wE at gE5
      have gE6 := hGE 6 (by decide)
      change (fun v _ => v = Value.int .u8 (v8 (bb))) (g 6) wE at gE6
      have gE7 := hGE 7 (by decide)
      change (fun v w' => Own w' wr.heap.size 5 v ([bb].map bv)) (g 7) wE at gE7
      try dsimp only at gE7
      have gE8 := hGE 8 (by decide)
      change (fun v _ => v = Value.int .u64 (u n)) (g 8) wE at gE8
      have gE9 := hGE 9 (by decide)
      change (fun v w' => Own w' wr.heap.size 5 v ((putB n).map bv)) (g 9) wE at gE9
      try dsimp only at gE9
      have gE10 := hGE 10 (by decide)
      change (fun v w' => RowsAt w' wr.heap.size v X) (g 10) wE at gE10
      try dsimp only at gE10
      have gE11 := hGE 11 (by decide)
      change (fun v w' => Own w' wr.heap.size 5 v (X.map bv)) (g 11) wE at gE11
      try dsimp only at gE11
      have gE12 := hGE 12 (by decide)
      change (fun v _ => v = Value.int .u64 (u (sumW k X))) (g 12) wE at gE12
      have gE13 := hGE 13 (by decide)
      change (fun v _ => v = Value.pointer (some ⟨w.heap.size + 1 + 1, j, none⟩)) (g 13) wE at gE13
      have gE14 := hGE 14 (by decide)
      change (fun _ w' => Blk w' (w.heap.size + 1 + 1) 56 C1) (g 14) wE at gE14
      try dsimp only at gE14
      simp only [fillA, Act.put, List.setIfInBounds_toArray, List.set_cons_zero, List.set_cons_succ, gE0, gE1, gE2, gE4, gE5, gE6, gE8, gE12, gE13]
      clear hGE gE0 gE1 gE2 gE4 gE5 gE6 gE8 gE12 gE13
      generalize g 3 = vE3 at *
      generalize g 7 = vE7 at *
      generalize g 9 = vE9 at *
      generalize g 10 = vE10 at *
      generalize g 11 = vE11 at *
      have hF1 : Fr none_ w wE := hF.step hUE.1 (fun i hi e => by have e : i = w.heap.size + 1 + 1 := e; omega)
      have hR1 := hR.kept hUE.1 (fun e => by have e : w.heap.size + 1 = w.heap.size + 1 + 1 := e; omega)
      have hK1 := hK.kept hUE.1 (fun e => by have e : w.heap.size = w.heap.size + 1 + 1 := e; omega)
      clear hUn hSn hSr hUE
      go_wp2
      go_roundw
      case rel => exact ⟨j + 1, by omega, by go_num, by rw [hC1]; exact gE14, hR1, hK1, hF1⟩
      case measure => simp [intOf]; omega
    · obtain rfl : j = 2 := by omega
      simp only [show ((2 : Nat) : Int) = 2 from rfl]
      have c0 : wr.cell? ⟨w.heap.size + 1 + 1, 0, none⟩ = some (.int .u64 (u (deriveW k l n).1)) := by rw [← der0]; exact hT.cell_of rfl
      have c1 : wr.cell? ⟨w.heap.size + 1 + 1, 1, none⟩ = some (.int .u64 (u (deriveW k l n).2)) := by rw [← der1]; exact hT.cell_of rfl
      have b0 : wr.cell? ⟨w.heap.size + 1, 0, none⟩ = some (.int .u64 0) := hR.cell_of rfl
      have b1 : wr.cell? ⟨w.heap.size + 1, 1, none⟩ = some (.int .u64 0) := hR.cell_of rfl
      have f0 := hR.free 0
      have f1 := hR.free 1
      go_wp2_with fail
      have hb3 := (hR.setCell 0 (.int .u64 (u (deriveW k l n).1))).setCell 1 (.int .u64 (u (deriveW k l n).2))
      have hF3 : Fr none_ w ((wr.setCell ⟨w.heap.size + 1, 0, none⟩ (.int .u64 (u (deriveW k l n).1))).setCell ⟨w.heap.size + 1, 1, none⟩ (.int .u64 (u (deriveW k l n).2))) := (hF.setCell (fun h => by simp at h; omega) _).setCell (fun h => by simp at h; omega) _
      generalize (wr.setCell ⟨w.heap.size + 1, 0, none⟩ (.int .u64 (u (deriveW k l n).1))).setCell ⟨w.heap.size + 1, 1, none⟩ (.int .u64 (u (deriveW k l n).2)) = w3 at *
      have d0 : w3.cell? ⟨w.heap.size + 1, 0, none⟩ = some (.int .u64 (u (deriveW k l n).1)) := hb3.cell_of rfl
      have d1 : w3.cell? ⟨w.heap.size + 1, 1, none⟩ = some (.int .u64 (u (deriveW k l n).2)) := hb3.cell_of rfl
      exact bodyPost_ret (v := .agg #[.int .u64 (u (deriveW k l n).1), .int .u64 (u (deriveW k l n).2)]) (by simp [results, Try.results45, go_sem, d0, d1]) rfl ⟨rfl, hF3⟩
end Go.Proofs.Ytandenkoejbloaa
