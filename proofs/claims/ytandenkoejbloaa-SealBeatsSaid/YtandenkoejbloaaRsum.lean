/- Walk of the document's Sum. -/
import Derived.Test.YtandenkoejbloaaRput
import Derived.Test.YtandenkoejbloaaSsum
import Derived.Test.YtandenkoejbloaaRegM
import Derived.Deep.DeepCutAuto
namespace Go.Proofs.Ytandenkoejbloaa
open Go Go.RowKit

def wcells (s : W × W × W × W) : List Value := [.int .u64 (u s.1), .int .u64 (u s.2.1), .int .u64 (u s.2.2.1), .int .u64 (u s.2.2.2)]
def refStart (k : W × W) : W × W × W × W := (k.1 ^^^ 8317987319222330741#64, k.2 ^^^ 7237128888997146477#64, k.1 ^^^ 7816392313619706465#64, k.2 ^^^ 8387220255154660723#64)
/-- The bytes with noughts and their length behind. -/
def padded (l : List UInt8) : List UInt8 := l ++ List.replicate (7 - l.length % 8) 0 ++ [UInt8.ofNat l.length]
theorem padded_length (l : List UInt8) : (padded l).length = 8 * (l.length / 8 + 1) := by
  simp [padded]; omega
attribute [go_sem] bs_append bs_size

theorem start_eq (k : W × W) : startW k = refStart k := by
  have h0 : wordTo 0 8 = 8317987319222330741#64 := by decide
  have h1 : wordTo 1 8 = 7237128888997146477#64 := by decide
  have h2 : wordTo 2 8 = 7816392313619706465#64 := by decide
  have h3 : wordTo 3 8 = 8387220255154660723#64 := by decide
  unfold startW refStart
  rw [h0, h1, h2, h3, BitVec.xor_comm k.1, BitVec.xor_comm k.2, BitVec.xor_comm k.1, BitVec.xor_comm k.2]
theorem le_congr (f g : Nat → UInt8) : ∀ k, (∀ j, j < k → f j = g j) → le f k = le g k
  | 0, _ => rfl
  | k + 1, h => by rw [le, le, le_congr f g k (fun j hj => h j (by omega)), h k (by omega)]
theorem wordAt_append (l m : List UInt8) (a : Nat) (h : a + 8 ≤ l.length) : wordAt (l ++ m) a = wordAt l a := by
  unfold wordAt
  refine le_congr _ _ 8 (fun j hj => ?_)
  rw [List.getD_eq_getElem?_getD, List.getD_eq_getElem?_getD, List.getElem?_append_left (by omega)]
theorem absTo_append (s : W × W × W × W) (l m : List UInt8) : ∀ k, 8 * k ≤ l.length → absTo s (l ++ m) k = absTo s l k
  | 0, _ => rfl
  | k + 1, h => by rw [absTo, absTo, absTo_append s l m k (by omega), wordAt_append l m _ (by omega)]
theorem sumW_ref (k : W × W) (l : List UInt8) :
    sumW k l = (let s := absTo (refStart k) (padded l) (l.length / 8 + 1); let r := rounds 4 (s.1, s.2.1, s.2.2.1 ^^^ 255, s.2.2.2); r.1 ^^^ r.2.1 ^^^ r.2.2.1 ^^^ r.2.2.2) := by
  have hlast : wordAt (l.drop (8 * (l.length / 8)) ++ List.replicate (7 - (l.drop (8 * (l.length / 8))).length) 0 ++ [UInt8.ofNat l.length]) 0 = wordAt (padded l) (8 * (l.length / 8)) := by
    rw [← Nat.add_zero (8 * (l.length / 8)), ← wordAt_drop]
    congr 1
    unfold padded
    have hd : (l.drop (8 * (l.length / 8))).length = l.length % 8 := by rw [List.length_drop]; omega
    rw [List.append_assoc, List.append_assoc, Nat.add_zero, List.drop_append_of_le_length (by omega), hd]
  have hrest : absTo (refStart k) (padded l) (l.length / 8) = absTo (refStart k) l (l.length / 8) := by
    unfold padded; rw [List.append_assoc, absTo_append _ _ _ _ (by omega)]
  unfold sumW finW
  rw [hlast, start_eq, absTo, hrest]

set_option maxRecDepth 100000 in
set_option maxHeartbeats 1600000 in
theorem rsum_any (k : W × W) (l : List UInt8) (w : World) (hl : l.length ≤ 140737488355000) :
    Calls Try.prog 33 #[keyv k, .string (bs l)] w fun e w' => e = .returned (.int .u64 (u (sumW k l))) ∧ Fr none_ w w' := by
  obtain ⟨i0, hi, hz0, hz1, hz2⟩ := info_parts info_u8
  have hx1 : ∀ x : W, bits .xor .u64 (u x) 8317987319222330741 = u (x ^^^ 8317987319222330741#64) := fun x => u_bits_xor x 8317987319222330741#64
  have hx2 : ∀ x : W, bits .xor .u64 (u x) 7237128888997146477 = u (x ^^^ 7237128888997146477#64) := fun x => u_bits_xor x 7237128888997146477#64
  have hx3 : ∀ x : W, bits .xor .u64 (u x) 7816392313619706465 = u (x ^^^ 7816392313619706465#64) := fun x => u_bits_xor x 7816392313619706465#64
  have hx4 : ∀ x : W, bits .xor .u64 (u x) 8387220255154660723 = u (x ^^^ 8387220255154660723#64) := fun x => u_bits_xor x 8387220255154660723#64
  unfold keyv
  go_enter Try.func33, Try.ntmps33
  go_wp2_with fail
  have hB1 : Blk ((w.alloc (Obj.cells #[.int .u64 (u k.1), .int .u64 (u k.2)] 56)).alloc (Obj.cells #[.int .u64 (u (k.1 ^^^ 8317987319222330741#64)), .int .u64 (u (k.2 ^^^ 7237128888997146477#64)), .int .u64 (u (k.1 ^^^ 7816392313619706465#64)), .int .u64 (u (k.2 ^^^ 8387220255154660723#64))] 24)) (w.heap.size + 1) 24 (wcells (refStart k)) := by
    have := Blk.new (w.alloc (Obj.cells #[.int .u64 (u k.1), .int .u64 (u k.2)] 56)) #[.int .u64 (u (k.1 ^^^ 8317987319222330741#64)), .int .u64 (u (k.2 ^^^ 7237128888997146477#64)), .int .u64 (u (k.1 ^^^ 7816392313619706465#64)), .int .u64 (u (k.2 ^^^ 8387220255154660723#64))] 24
    rw [World.size_alloc] at this
    exact this
  have hF1 := ((Fr.refl none_ w).alloc (Obj.cells #[.int .u64 (u k.1), .int .u64 (u k.2)] 56)).alloc (Obj.cells #[.int .u64 (u (k.1 ^^^ 8317987319222330741#64)), .int .u64 (u (k.2 ^^^ 7237128888997146477#64)), .int .u64 (u (k.1 ^^^ 7816392313619706465#64)), .int .u64 (u (k.2 ^^^ 8387220255154660723#64))] 24)
  generalize ((w.alloc (Obj.cells #[.int .u64 (u k.1), .int .u64 (u k.2)] 56)).alloc (Obj.cells #[.int .u64 (u (k.1 ^^^ 8317987319222330741#64)), .int .u64 (u (k.2 ^^^ 7237128888997146477#64)), .int .u64 (u (k.1 ^^^ 7816392313619706465#64)), .int .u64 (u (k.2 ^^^ 8387220255154660723#64))] 24)) = W1 at *
  have HB1 := Lib.hid hB1
  have HF1 := Lib.hid hF1
  clear hB1 hF1 hx1 hx2 hx3 hx4
  obtain ⟨m, hm1, hm2, hm3⟩ : ∃ m : Nat, (l.length : Int).tmod 8 = (m : Int) ∧ m < 8 ∧ m = l.length % 8 := ⟨l.length % 8, by rw [Int.tmod_eq_emod_of_nonneg (by omega)]; omega, by omega, rfl⟩
  have HM := Lib.hid hm3
  clear hm3
  have e7 : IntKind.i64.wrap (7 - (m : Int)) = 7 - (m : Int) := IntWalk.i64_in _ (by omega)
  have e8 := v8_ofNat l.length
  have ha1 := str_add l (List.replicate (7 - m) 0) (by simp; omega)
  have ha2 := str_add (l ++ List.replicate (7 - m) 0) [UInt8.ofNat l.length] (by simp; omega)
  go_cut [6] (fun s6 wc => s6 = .string (bs (padded l)) ∧ Blk wc (w.heap.size + 1) 24 (wcells (refStart k)) ∧ Fr none_ w wc)
  case first =>
    refine region_tm [5, 6, 11, 12] [] [0, 0, 2, 4, 8, 16, 32, 65, 0, 256, 512, 1024, 2048, 4224, 16383] [32767, 32767, 32765, 32763, 32759, 0, 0, 32702, 32767, 32511, 32255, 0, 0, 28543, 24575] [0, 0, 2, 6, 14, 30, 62, 127, 0, 256, 768, 1792, 3840, 8191, 16383] 32767 (.quiet 0 (.quiet 1 (.quiet 2 (.quiet 3 (.quiet 4 (.quiet 8 (.quiet 9 (.quiet 10 (.alt 5 (.alt 6 (.quiet 7 (.alt 11 (.alt 12 (.quiet 13 (.quiet 14 .done)) (.fin)) (.fin))) (.alt 11 (.alt 6 (.quiet 7 (.alt 12 (.quiet 13 (.quiet 14 .done)) (.fin))) (.alt 12 (.alt 6 (.quiet 7 (.quiet 13 (.quiet 14 .done))) (.fin)) (.fin))) (.fin))) (.alt 11 (.alt 5 (.alt 6 (.quiet 7 (.alt 12 (.quiet 13 (.quiet 14 .done)) (.fin))) (.alt 12 (.alt 6 (.quiet 7 (.quiet 13 (.quiet 14 .done))) (.fin)) (.fin))) (.alt 12 (.alt 5 (.alt 6 (.quiet 7 (.quiet 13 (.quiet 14 .done))) (.fin)) (.fin)) (.fin))) (.fin))))))))))) (fun _ => True) (by as_aux_lemma => kernel_rfl) (by as_aux_lemma => kernel_rfl) (by as_aux_lemma => kernel_rfl) (by as_aux_lemma => kernel_rfl) (by as_aux_lemma => kernel_rfl) (by as_aux_lemma => kernel_rfl) (by as_aux_lemma => kernel_rfl) (by as_aux_lemma => kernel_rfl) trivial ?_
    repeat' (first
      | (refine t_float (v := ?_) (a' := ?_) rfl rfl rfl ?_ ?_ ?_
         rotate_left 2
         · (intro w' _; go_simp; with_reducible rfl)
         · (simp only [Act.put, List.setIfInBounds_toArray, List.set_cons_zero, List.set_cons_succ]; rfl))
      | (refine t_bound (v := ?_) (a' := ?_) rfl rfl rfl ?_ ?_ ?_
         rotate_left 2
         · (go_simp; with_reducible rfl)
         · (simp only [Act.put, List.setIfInBounds_toArray, List.set_cons_zero, List.set_cons_succ]; rfl))
      | exact t_fin
      | (refine t_acts rfl rfl (fun K hK => ?_) ?_
         first | ((first | (refine wp_make_b _ _ _ 25 rfl 0 5 i0 (.int .u8 0) Try.underlying25 hi hz0 hz1 rfl .i64 .i64 _ _ (7 - m) rfl rfl (by omega) (by omega) (by rw [hz2]; omega) (by omega) (Nat.zero_le _) (fun v1 w1 ho1 hf1 hk1 => ?_)) | (refine wp_str _ _ _ _ _ rfl Try.underlying25 Try.underlying5 Try.underlying9 v1 (List.replicate (7 - m) 0) rfl (by rw [List.map_replicate]; first | exact ho1.rd | exact ho1.rd.alloc _) ?_) | (refine wp_str _ _ _ _ _ rfl Try.underlying25 Try.underlying5 Try.underlying9 (.slice (some ⟨_, 0, none⟩) 1 1) [UInt8.ofNat l.length] rfl (by first | exact rd_made _ [bv (UInt8.ofNat l.length)] _ (by show 1 ≤ maxLen; decide) | exact (rd_made W1.drew [bv (UInt8.ofNat l.length)] 5 (by show 1 ≤ maxLen; decide)).kept hf1 (fun _ _ _ _ f => f)) ?_)); simp only [Act.put, List.setIfInBounds_toArray, List.set_cons_zero, List.set_cons_succ]) | (go_simp)
         refine hK.out _ _ trivial ?_
         clear hK K))
    all_goals (refine t_done ?_)
    all_goals go_wp2
    all_goals go_meet
    all_goals
      refine ⟨?_, ?_, ?_⟩
      · rw [HM.out, ← List.append_assoc]; rfl
      · first
          | exact HB1.out.drew.kept hf1 (fun f => f)
          | exact (HB1.out.drew.kept hf1 (fun f => f)).alloc _
          | exact (HB1.out.alloc _).drew.kept hf1 (fun f => f)
      · first
          | exact HF1.out.drew.trans hf1
          | exact (HF1.out.drew.trans hf1).alloc _
          | exact (HF1.out.alloc _).drew.trans hf1
  case rest =>
    obtain ⟨rfl, hb, hf⟩ := hcut
    clear HB1 HF1 HM hm1 hm2 e7 e8 ha1 ha2 hi hz0 hz1 hz2
    have hpl := padded_length l
    generalize hpd : padded l = pd at *
    have HPD := Lib.hid hpd
    have HPL := Lib.hid hpl
    have hpb : pd.length ≤ 140737488355100 := by omega
    clear hpd hpl
    generalize hs0 : refStart k = s0 at *
    have HS0 := Lib.hid hs0
    clear hs0
    go_wp2_with fail
    go_loopw [7] (fun i wr => ∃ j r : Nat, i = .int .i64 j ∧ j = 8 * r ∧ j ≤ pd.length ∧ Blk wr (w.heap.size + 1) 24 (wcells (absTo s0 pd r)) ∧ Fr none_ w wr) (fun i _ => pd.length - (intOf i).toNat)
    case atStart => exact ⟨0, 0, rfl, rfl, Nat.zero_le _, hb, hf⟩
    case round =>
      clear hb hf
      obtain ⟨j, r, rfl, hjr, hj, hb, hf⟩ := hrel
      have HJ := Lib.hid hjr
      clear hjr
      generalize hsr : absTo s0 pd r = sr at hb
      have HSR := Lib.hid hsr
      have HB := Lib.hid hb
      have HF := Lib.hid hf
      clear hsr hb hf
      by_cases hlt : j < pd.length
      · have hd : decide ((j : Int) < (pd.length : Int)) = true := by simp; omega
        go_wp2_with fail
        refine (rget_bs pd _ _ (by unfold maxLen; omega) (by omega) (by have := HJ.out; have := HPL.out; omega)).mono ?_
        rintro e w' ⟨rfl, rfl⟩
        rw [Int.toNat_natCast]
        generalize hmw : wordAt pd j = mw
        have HMW := Lib.hid hmw
        clear hmw
        have c3 : wr.cell? ⟨w.heap.size + 1, 3, none⟩ = some (.int .u64 (u sr.2.2.2)) := HB.out.cell_of rfl
        have f3 := HB.out.free 3
        have HB2 := Lib.hid (show Blk (wr.setCell ⟨w.heap.size + 1, 3, none⟩ (.int .u64 (u (sr.2.2.2 ^^^ mw)))) _ 24 (wcells (sr.1, sr.2.1, sr.2.2.1, sr.2.2.2 ^^^ mw)) from HB.out.setCell 3 _)
        have hno : w.heap.size + 1 < w.heap.size → none_ (w.heap.size + 1) := fun h => absurd h (by omega)
        have HF2 := Lib.hid (HF.out.setCell (p := ⟨w.heap.size + 1, 3, none⟩) hno (.int .u64 (u (sr.2.2.2 ^^^ mw))))
        have HN := Lib.hid hno
        clear hno HB HF
        go_wp2_with fail
        obtain ⟨wo, rfl⟩ : ∃ wo : World, wo = wr := ⟨_, rfl⟩
        go_loopw [10] (fun i wr => ∃ q : Nat, i = .int .i64 q ∧ q ≤ 2 ∧ Blk wr (w.heap.size + 1) 24 (wcells (rounds q (sr.1, sr.2.1, sr.2.2.1, sr.2.2.2 ^^^ mw))) ∧ Fr none_ w wr) (fun i _ => 2 - (intOf i).toNat)
        case atStart => exact ⟨0, rfl, by omega, HB2.out, HF2.out⟩
        case round =>
          clear HB2 HF2 c3 f3
          obtain ⟨q, rfl, hq, hb, hf⟩ := hrel
          generalize hsq : rounds q (sr.1, sr.2.1, sr.2.2.1, sr.2.2.2 ^^^ mw) = sq at hb
          have HSQ := Lib.hid hsq
          clear hsq
          have c0 : wr.cell? ⟨w.heap.size + 1, 0, none⟩ = some (.int .u64 (u sq.1)) := hb.cell_of rfl
          have c1 : wr.cell? ⟨w.heap.size + 1, 1, none⟩ = some (.int .u64 (u sq.2.1)) := hb.cell_of rfl
          have c2 : wr.cell? ⟨w.heap.size + 1, 2, none⟩ = some (.int .u64 (u sq.2.2.1)) := hb.cell_of rfl
          have c3 : wr.cell? ⟨w.heap.size + 1, 3, none⟩ = some (.int .u64 (u sq.2.2.2)) := hb.cell_of rfl
          have f0 := hb.free 0
          have f1 := hb.free 1
          have f2 := hb.free 2
          have f3 := hb.free 3
          have HB := Lib.hid hb
          have HF := Lib.hid hf
          clear hb hf
          by_cases hlt2 : q < 2
          · have hd2 : decide ((q : Int) < 2) = true := by simp; omega
            go_wp2_with (go_at_call 29; refine (rround_any _ _ _ _ _).mono ?_; rintro e w' ⟨rfl, rfl⟩)
            go_roundw
            case rel =>
              refine ⟨q + 1, by go_num, by omega, ?_, (((HF.out.setCell (p := ⟨w.heap.size + 1, 0, none⟩) HN.out _).setCell (p := ⟨w.heap.size + 1, 1, none⟩) HN.out _).setCell (p := ⟨w.heap.size + 1, 2, none⟩) HN.out _).setCell (p := ⟨w.heap.size + 1, 3, none⟩) HN.out _⟩
              rw [rounds_succ', HSQ.out]
              exact (((HB.out.setCell 0 _).setCell 1 _).setCell 2 _).setCell 3 _
            case measure => simp [intOf]; omega
          · obtain rfl : q = 2 := by omega
            have hd2 : decide (((2 : Nat) : Int) < 2) = false := by decide
            go_wp2_with fail
            go_roundw
            case rel =>
              refine ⟨j + 8, r + 1, by go_num, by have := HJ.out; omega, by have := HJ.out; have := HPL.out; omega, ?_, HF.out.setCell (p := ⟨w.heap.size + 1, 0, none⟩) HN.out _⟩
              have e1 : absTo s0 pd (r + 1) = (sq.1 ^^^ mw, sq.2) := by
                rw [absTo, HSR.out, takeW, ← HJ.out, HMW.out, ← HSQ.out]
              rw [e1]
              exact HB.out.setCell 0 _
            case measure => simp [intOf]; omega
      · have hd : decide ((j : Int) < (pd.length : Int)) = false := by simp; omega
        have c2 : wr.cell? ⟨w.heap.size + 1, 2, none⟩ = some (.int .u64 (u sr.2.2.1)) := HB.out.cell_of rfl
        have f2 := HB.out.free 2
        have HB2 := Lib.hid (show Blk (wr.setCell ⟨w.heap.size + 1, 2, none⟩ (.int .u64 (u (sr.2.2.1 ^^^ 255)))) _ 24 (wcells (sr.1, sr.2.1, sr.2.2.1 ^^^ 255, sr.2.2.2)) from HB.out.setCell 2 _)
        have hno : w.heap.size + 1 < w.heap.size → none_ (w.heap.size + 1) := fun h => absurd h (by omega)
        have HF2 := Lib.hid (HF.out.setCell (p := ⟨w.heap.size + 1, 2, none⟩) hno (.int .u64 (u (sr.2.2.1 ^^^ 255))))
        have HN := Lib.hid hno
        clear hno HB HF
        go_wp2_with fail
        obtain ⟨wo, rfl⟩ : ∃ wo : World, wo = wr := ⟨_, rfl⟩
        go_loopw [11] (fun i wr => ∃ q : Nat, i = .int .i64 q ∧ q ≤ 4 ∧ Blk wr (w.heap.size + 1) 24 (wcells (rounds q (sr.1, sr.2.1, sr.2.2.1 ^^^ 255, sr.2.2.2))) ∧ Fr none_ w wr) (fun i _ => 4 - (intOf i).toNat)
        case atStart => exact ⟨0, rfl, by omega, HB2.out, HF2.out⟩
        case round =>
          clear HB2 HF2 c2 f2
          obtain ⟨q, rfl, hq, hb, hf⟩ := hrel
          generalize hsq : rounds q (sr.1, sr.2.1, sr.2.2.1 ^^^ 255, sr.2.2.2) = sq at hb
          have HSQ := Lib.hid hsq
          clear hsq
          have c0 : wr.cell? ⟨w.heap.size + 1, 0, none⟩ = some (.int .u64 (u sq.1)) := hb.cell_of rfl
          have c1 : wr.cell? ⟨w.heap.size + 1, 1, none⟩ = some (.int .u64 (u sq.2.1)) := hb.cell_of rfl
          have c2 : wr.cell? ⟨w.heap.size + 1, 2, none⟩ = some (.int .u64 (u sq.2.2.1)) := hb.cell_of rfl
          have c3 : wr.cell? ⟨w.heap.size + 1, 3, none⟩ = some (.int .u64 (u sq.2.2.2)) := hb.cell_of rfl
          have f0 := hb.free 0
          have f1 := hb.free 1
          have f2 := hb.free 2
          have f3 := hb.free 3
          have HB := Lib.hid hb
          have HF := Lib.hid hf
          clear hb hf
          by_cases hlt2 : q < 4
          · have hd2 : decide ((q : Int) < 4) = true := by simp; omega
            go_wp2_with (go_at_call 29; refine (rround_any _ _ _ _ _).mono ?_; rintro e w' ⟨rfl, rfl⟩)
            go_roundw
            case rel =>
              refine ⟨q + 1, by go_num, by omega, ?_, (((HF.out.setCell (p := ⟨w.heap.size + 1, 0, none⟩) HN.out _).setCell (p := ⟨w.heap.size + 1, 1, none⟩) HN.out _).setCell (p := ⟨w.heap.size + 1, 2, none⟩) HN.out _).setCell (p := ⟨w.heap.size + 1, 3, none⟩) HN.out _⟩
              rw [rounds_succ', HSQ.out]
              exact (((HB.out.setCell 0 _).setCell 1 _).setCell 2 _).setCell 3 _
            case measure => simp [intOf]; omega
          · obtain rfl : q = 4 := by omega
            have hd2 : decide (((4 : Nat) : Int) < 4) = false := by decide
            go_wp2_with fail
            go_ret
            refine ⟨ret_int ?_, HF.out⟩
            have hr : r = l.length / 8 + 1 := by have := HJ.out; have := HPL.out; omega
            rw [sumW_ref k l, HPD.out, HS0.out, ← hr, HSR.out]
            dsimp only
            rw [HSQ.out]
end Go.Proofs.Ytandenkoejbloaa
