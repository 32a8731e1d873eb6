/- For every input the law quorumitelaw5.RingPlays returns true: generations, keys, are what the document says, step by step. Conditions: none. -/
import Derived.Test.YtandenkoejbloaaTold5
import Derived.Test.YtandenkoejbloaaRring3
import Derived.Test.YtandenkoejbloaaFacts
import Derived.Test.YtandenkoejbloaaEq
import Derived.Test.YtandenkoejbloaaMore
import Derived.Test.YtandenkoejbloaaOpenL
namespace Go.Proofs.Ytandenkoejbloaa
open Go Go.RowKit
theorem genC_in {g : Gs} {j : Nat} {p : Int × Int} (h : g[j]? = some p) : genC g (j : Int) = p.1 ∧ sinC g (j : Int) = p.2 := by
  unfold genC sinC gat
  rw [if_pos (by omega), Int.toNat_natCast, h]
  exact ⟨rfl, rfl⟩
theorem none_of_rtwo {gb sb B : Nat} (h1 : B ≤ gb) (h2 : B ≤ sb) : ∀ i, i < B → rtwo gb sb i → none_ i := by
  intro i hi ht
  rcases ht with rfl | rfl <;> omega
def one_ (b : Nat) : Nat → Prop := fun k => k = b
theorem none_of_one {b B : Nat} (h : B ≤ b) : ∀ i, i < B → one_ b i → none_ i := by
  intro i hi ht
  unfold one_ at ht; omega
/-- Both rings stand, apart. -/
structure Both (w : World) (b lb fb gb sb : Nat) (seed : W) (grace : Int) (g : Gs) : Prop where
  r : RgAt w b lb seed grace g
  f : RfAt w fb gb sb seed grace g
  ne : (fb ≠ b ∧ fb ≠ lb) ∧ (gb ≠ b ∧ gb ≠ lb) ∧ (sb ≠ b ∧ sb ≠ lb)
section
variable {w w' : World} {b lb fb gb sb : Nat} {seed : W} {grace : Int} {g g' : Gs}
theorem Both.kept (h : Both w b lb fb gb sb seed grace g) (hf : Fr none_ w w') : Both w' b lb fb gb sb seed grace g :=
  ⟨h.r.kept hf (fun f => f) (fun f => f), h.f.kept hf (fun f => f) (fun f => f) (fun f => f), h.ne⟩
theorem Both.ring (h : Both w b lb fb gb sb seed grace g) (hf : Fr (two b lb) w w') : RfAt w' fb gb sb seed grace g :=
  h.f.kept hf (by rintro (e | e); exact h.ne.1.1 e; exact h.ne.1.2 e) (by rintro (e | e); exact h.ne.2.1.1 e; exact h.ne.2.1.2 e) (by rintro (e | e); exact h.ne.2.2.1 e; exact h.ne.2.2.2 e)
theorem Both.doc (hr : RgAt w b lb seed grace g) (hn : (fb ≠ b ∧ fb ≠ lb) ∧ (gb ≠ b ∧ gb ≠ lb) ∧ (sb ≠ b ∧ sb ≠ lb)) (hf : Fr (rtwo gb sb) w w') (h' : RfAt w' fb gb sb seed grace g) : Both w' b lb fb gb sb seed grace g :=
  ⟨hr.kept hf (by rintro (e | e); exact hn.2.1.1 e.symm; exact hn.2.2.1 e.symm) (by rintro (e | e); exact hn.2.1.2 e.symm; exact hn.2.2.2 e.symm), h', hn⟩
end
set_option maxRecDepth 100000 in
set_option maxHeartbeats 60000000 in
theorem walk_RingPlays (w : World) (seed : W) (n : Int) (nl : -9223372036854775808 ≤ n) (nh : n ≤ 9223372036854775807) (grace : Int) (_ : -9223372036854775808 ≤ grace) (_ : grace ≤ 9223372036854775807) (v : Value) (L : List Q4) (hL : Rq w v L) :
    Calls Try.prog 20 #[.int .u64 (u seed), .int .i64 n, .int .i64 grace, v] w fun e w' => e = .returned (.bool true) ∧ Fr none_ w w' := by
  obtain ⟨ao, cap, rfl, hc1, hm1, hcell⟩ := hL
  unfold maxLen at hm1
  have HT : ∀ wa : World, Calls Try.prog 65 #[] wa fun e w' => e = .returned (.bool true) ∧ Fr none_ wa w' := told5_any
  go_enter Try.func20, Try.ntmps20
  by_cases hbad : badR n grace
  · have HN1 := fun wa => rnew_bad seed n grace wa hbad
    have HN2 := fun wa => fnew_bad seed n grace wa hbad
    clear hcell
    go_wp2_with fail
    refine (HN1 _).mono ?_
    rintro e w1 ⟨rfl, rfl⟩
    go_wp2_with fail
    refine (HN2 _).mono ?_
    rintro e w1 ⟨rfl, rfl⟩
    go_wp2_with fail
    refine (HT _).mono ?_
    rintro e w2 ⟨rfl, hf⟩
    go_wp2_with fail
    go_ret
    exact ⟨rfl, hf⟩
  have HN1 := fun wa => rnew_ok seed n grace wa hbad
  have HN2 := fun wa => fnew_ok seed n grace wa hbad
  have hb' := hbad
  unfold badR at hb'
  obtain ⟨k, rfl⟩ : ∃ k : Nat, n = k := ⟨n.toNat, by omega⟩
  rw [Int.toNat_natCast] at HN1 HN2
  have HKB := Lib.hid (show 1 ≤ k ∧ k ≤ 16 by omega)
  have e5 : IntKind.u64.wrap (k : Int) = k := by rw [IntKind.wrap_u64]; omega
  have e6 : ¬ (k : Int) = 0 := by omega
  have e7 : ((k : Int) == 0) = false := by simp; omega
  clear hbad hb' nl nh
  go_wp2_with fail
  refine (HN1 _).mono ?_
  rintro e w1 ⟨b, lb, rfl, hb, hlb, hA, hF⟩
  have h2 := none_of_two hb hlb
  go_wp2_with fail
  refine (HN2 _).mono ?_
  rintro e w2 ⟨fb, gb, sb, rfl, hfb, hgb, hsb, hA2, hF2⟩
  have hbl : b < w1.heap.size := by obtain ⟨_, _, _, _, _, _, _, hb⟩ := hA; exact hb.lt
  have hll : lb < w1.heap.size := hA.2.2.2.2.2.1.lt
  have r2 := none_of_rtwo (B := w.heap.size) (by have := hF.size; omega) (by have := hF.size; omega) (gb := gb) (sb := sb)
  have hbo : Both w2 b lb fb gb sb seed grace (List.replicate k (0, 0)) := ⟨hA.kept hF2 (fun f => f) (fun f => f), hA2, ⟨by omega, by omega⟩, ⟨by omega, by omega⟩, ⟨by omega, by omega⟩⟩
  have HF := Lib.hid (hF.trans hF2)
  clear hA hA2 hF hF2 hfb hgb hsb hbl hll hb hlb HN1 HN2
  by_cases hbig : 40 < L.length
  · have hd : decide ((40 : Int) < (L.length : Int)) = true := by simp; omega
    clear hcell hbo
    go_wp2_with fail
    refine (HT _).mono ?_
    rintro e w3 ⟨rfl, hf⟩
    go_wp2_with fail
    go_ret
    exact ⟨rfl, HF.out.trans hf⟩
  have hd : decide ((40 : Int) < (L.length : Int)) = false := by simp; omega
  have HL := Lib.hid (show L.length ≤ 40 by omega)
  go_wp2_with fail
  clear hd hbig
  go_loopw [11] (fun i wr => ∃ (j : Nat) (g : Gs), j ≤ L.length ∧ i = .int .i64 j ∧ g.length = k ∧ Both wr b lb fb gb sb seed grace g ∧ Fr none_ w wr) (fun i _ => L.length - (intOf i).toNat)
  case atStart => exact ⟨0, List.replicate k (0, 0), Nat.zero_le _, rfl, List.length_replicate, hbo, HF.out⟩
  case round =>
    clear hbo HF
    obtain ⟨j, g, hj, rfl, hg, hbo, hF⟩ := hrel
    by_cases hlt : j < L.length
    · have hd : decide ((j : Int) < (L.length : Int)) = true := by simp; omega
      obtain ⟨q, hq⟩ : ∃ q, L[j]? = some q := ⟨_, List.getElem?_eq_getElem hlt⟩
      obtain ⟨hqo, pb, po, rfl, hpb, p0, p1, p2, p3⟩ := hcell j q hq
      have q0 := (hF.cell (p := ⟨pb, po + j * 4, none⟩) hpb (fun f => f)).trans p0
      have q1 := (hF.cell (p := ⟨pb, po + j * 4 + 1, none⟩) hpb (fun f => f)).trans p1
      have q2 := (hF.cell (p := ⟨pb, po + j * 4 + 2, none⟩) hpb (fun f => f)).trans p2
      have q3 := (hF.cell (p := ⟨pb, po + j * 4 + 3, none⟩) hpb (fun f => f)).trans p3
      have hFl := hF.size
      have HCELL := Lib.hid hcell
      clear hcell p0 p1 p2 p3
      --ROUND
      have hobs : wr.heap.size ≠ b ∧ wr.heap.size ≠ lb ∧ wr.heap.size ≠ gb ∧ wr.heap.size ≠ sb ∧ wr.heap.size ≠ fb := by
        obtain ⟨_, _, _, _, _, ha, _, hb⟩ := hbo.r
        obtain ⟨_, _, _, _, _, _, _, hc, hd', he⟩ := hbo.f
        have := ha.lt; have := hb.lt; have := hc.lt; have := hd'.lt; have := he.lt
        omega
      by_cases h3 : (j : Int).tmod 4 < 3
      · have d3 : decide ((j : Int).tmod 4 < 3) = true := decide_eq_true h3
        obtain ⟨a, ha, hma⟩ := modN k (by omega) q.b
        obtain ⟨p, hp⟩ : ∃ p, g[a]? = some p := ⟨_, List.getElem?_eq_getElem (by omega)⟩
        obtain ⟨c, hc, hmc⟩ := modN 4 (by decide) q.c
        have hmc : (IntKind.u64.wrap q.c).tmod 4 = (c : Int) := hmc
        have hpo := hbo.r.2.1 p (List.mem_of_getElem? hp)
        have hKB := HKB.out
        have e1 : IntKind.i64.wrap (a : Int) = a := IntWalk.i64_in _ (by omega)
        have e2 : IntKind.i64.wrap (c : Int) = c := IntWalk.i64_in _ (by omega)
        have e3 : IntKind.i64.wrap (p.1 + (c : Int)) = p.1 + (c : Int) := IntWalk.i64_in _ (by omega)
        have e4 : IntKind.i64.wrap (p.1 + (c : Int) - 1) = p.1 + (c : Int) - 1 := IntWalk.i64_in _ (by omega)
        have hal : (a : Int) < (g.length : Int) := by omega
        have hx1 := (Fr.refl none_ wr).alloc (.cells #[.int .i64 q.a, .int .i64 a, .int .i64 q.c, .int .i64 q.d] 95)
        have hO1 := Blk.new wr #[.int .i64 q.a, .int .i64 a, .int .i64 q.c, .int .i64 q.d] 95
        have hbo1 := hbo.kept hx1
        have hF1 := hF.trans hx1
        have hwl : w.heap.size ≤ wr.heap.size := hFl
        clear hbo hF hx1
        go_wp2_with fail
        rotate_left
        iterate 3 (exfalso; have htm : (j : Int).tmod 4 = (j : Int) % 4 := Int.tmod_eq_emod_of_nonneg (by omega); omega)
        generalize hob : wr.heap.size = ob at *
        generalize wr.alloc (.cells #[.int .i64 q.a, .int .i64 a, .int .i64 q.c, .int .i64 q.d] 95) = w1 at *
        obtain ⟨k0, k1, k2, k3⟩ := hbo1.f.head
        obtain ⟨z0, z1, _, _⟩ := hbo1.f.cells hp
        have o1 : w1.cell? ⟨ob, 1, none⟩ = some (.int .i64 a) := hO1.cell_of rfl
        have o2 : w1.cell? ⟨ob, 2, none⟩ = some (.int .i64 q.c) := hO1.cell_of rfl
        have f2 := hO1.free 2
        refine region_pi [16] [3, 5, 7, 9] [0, 1, 2, 3, 4, 5, 6, 7, 8, 9, 10, 11, 12, 13, 14, 15, 16] (fun _ => True) (by as_aux_lemma => kernel_rfl) (by as_aux_lemma => kernel_rfl) (by as_aux_lemma => kernel_rfl) (by as_aux_lemma => kernel_rfl) (by as_aux_lemma => kernel_rfl) trivial ?_
        repeat (first
          | (refine pi_float (v := ?_) (a' := ?_) rfl rfl rfl rfl ?_ ?_ ?_
             rotate_left 2
             · (intro w' _; go_simp; with_reducible rfl)
             · (simp only [Act.put, List.setIfInBounds_toArray, List.set_cons_zero, List.set_cons_succ]; rfl))
          | (refine pi_bound (v := ?_) (a' := ?_) rfl rfl rfl rfl ?_ ?_ ?_
             rotate_left 2
             · (go_simp; with_reducible rfl)
             · (simp only [Act.put, List.setIfInBounds_toArray, List.set_cons_zero, List.set_cons_succ]; rfl))
          | (refine pi_acts rfl rfl rfl (fun K hK => ?_)
             go_simp
             refine hK.out _ _ trivial ?_
             clear hK K))
        refine pi_done ?_
        have hst := ((Fr.refl (one_ ob) w1).setCell (p := ⟨ob, 2, none⟩) (fun _ => rfl) (.int .i64 (p.1 + (c : Int) - 1))).drew
        have hO : Blk (w1.setCell ⟨ob, 2, none⟩ (.int .i64 (p.1 + (c : Int) - 1))).drew ob 95 [.int .i64 q.a, .int .i64 a, .int .i64 (p.1 + (c : Int) - 1), .int .i64 q.d] := hO1.setCell 2 _
        have hbo : Both (w1.setCell ⟨ob, 2, none⟩ (.int .i64 (p.1 + (c : Int) - 1))).drew b lb fb gb sb seed grace g := ⟨hbo1.r.kept hst (fun e => hobs.1 e.symm) (fun e => hobs.2.1 e.symm), hbo1.f.kept hst (fun e => hobs.2.2.2.2 e.symm) (fun e => hobs.2.2.1 e.symm) (fun e => hobs.2.2.2.1 e.symm), hbo1.ne⟩
        have hF : Fr none_ w (w1.setCell ⟨ob, 2, none⟩ (.int .i64 (p.1 + (c : Int) - 1))).drew := hF1.step hst (none_of_one (by omega))
        have hBle : p.1 + (c : Int) - 1 ≤ 9223372036854775807 := by omega
        clear hbo1 hO1 hF1 hst k0 k1 k2 k3 z0 z1 o1 o2 f2 hob
        generalize (w1.setCell ⟨ob, 2, none⟩ (.int .i64 (p.1 + (c : Int) - 1))).drew = wo at *
        clear hpo e1 e2 e3 e4 hma hmc hp d3 h3
        generalize p.1 + (c : Int) - 1 = B at *
        generalize (a : Int) = A at *
        have hobn := hobs
        have hbl := hbo.r
        have hobn : ob ≠ b ∧ ob ≠ lb ∧ ob ≠ gb ∧ ob ≠ sb ∧ ob ≠ fb := hobn
        have HK1 : ∀ w', Fr (two b lb) wo w' → w'.cell? ⟨ob, 0, none⟩ = some (.int .i64 q.a) ∧ w'.cell? ⟨ob, 1, none⟩ = some (.int .i64 A) ∧ w'.cell? ⟨ob, 2, none⟩ = some (.int .i64 B) ∧ w'.cell? ⟨ob, 3, none⟩ = some (.int .i64 q.d) := fun w' hf => by
          have := hO.kept hf (by rintro (h | h); exact hobn.1 h; exact hobn.2.1 h)
          exact ⟨this.cell_of rfl, this.cell_of rfl, this.cell_of rfl, this.cell_of rfl⟩
        have HK2 : ∀ w1 w', Fr (two b lb) wo w1 → Fr (rtwo gb sb) w1 w' → w'.cell? ⟨ob, 0, none⟩ = some (.int .i64 q.a) ∧ w'.cell? ⟨ob, 1, none⟩ = some (.int .i64 A) ∧ w'.cell? ⟨ob, 2, none⟩ = some (.int .i64 B) ∧ w'.cell? ⟨ob, 3, none⟩ = some (.int .i64 q.d) := fun w1 w' hf hf2 => by
          have := (hO.kept hf (by rintro (h | h); exact hobn.1 h; exact hobn.2.1 h)).kept hf2 (by rintro (h | h); exact hobn.2.2.1 h; exact hobn.2.2.2.1 h)
          exact ⟨this.cell_of rfl, this.cell_of rfl, this.cell_of rfl, this.cell_of rfl⟩
        obtain ⟨o0, o1, o2, o3⟩ := HK1 wo (Fr.refl _ _)
        have hne := hbo.ne
        have hg0 : Fr (two b lb) wo wo.drew := (Fr.refl _ _).drew
        by_cases hk2 : bits .and .i64 q.a 7 < 2
        · have dk : decide (bits .and .i64 q.a 7 < 2) = true := decide_eq_true hk2
          as_aux_lemma =>
            have HR1 : Calls Try.prog 66 #[.pointer (some ⟨b, 0, none⟩), .int .i64 A, .int .i64 B, .int .i64 q.d] wo.drew fun e w' => e = .returned (.int .i64 (rotC g A B q.d)) ∧ RgAt w' b lb seed grace (putG g (rotC g A B q.d) A B q.d) ∧ Fr (two b lb) wo.drew w' := rrot_any hbo.r.drew A B q.d
            have HR2 : ∀ wa, RfAt wa fb gb sb seed grace g → Calls Try.prog 67 #[.pointer (some ⟨fb, 0, none⟩), .int .i64 A, .int .i64 B, .int .i64 q.d] wa fun e w' => e = .returned (.int .i64 (rotC g A B q.d)) ∧ RfAt w' fb gb sb seed grace (putG g (rotC g A B q.d) A B q.d) ∧ Fr (rtwo gb sb) wa w' := fun wa h => frot_any h A B q.d hBle
            have hgl : (putG g (rotC g A B q.d) A B q.d).length = k := by rw [putG_length]; exact hg
            have HRF := fun w' (hf : Fr (two b lb) wo.drew w') => Both.ring hbo (hg0.trans hf)
            generalize putG g (rotC g A B q.d) A B q.d = g' at *
            generalize rotC g A B q.d = code at *
            try clear hk2
            try clear hk3
            clear hbo hO HCELL
            try (go_wp2_with fail)
            refine region_pi [7, 15] [2, 4, 6] [0, 1, 2, 3, 4, 5, 6, 8, 9, 10, 11, 12, 13, 14, 7, 15, 16] (fun w' => w'.cell? ⟨ob, 0, none⟩ = some (.int .i64 q.a) ∧ w'.cell? ⟨ob, 1, none⟩ = some (.int .i64 A) ∧ w'.cell? ⟨ob, 2, none⟩ = some (.int .i64 B) ∧ w'.cell? ⟨ob, 3, none⟩ = some (.int .i64 q.d)) (by as_aux_lemma => kernel_rfl) (by as_aux_lemma => kernel_rfl) (by as_aux_lemma => kernel_rfl) (by as_aux_lemma => kernel_rfl) (by as_aux_lemma => kernel_rfl) (by first | exact HK2 _ _ hg1 hf2 | exact HK1 _ hg1 | exact HK1 _ hg0) ?_
            repeat (first
              | (refine pi_float (v := ?_) (a' := ?_) rfl rfl rfl rfl ?_ ?_ ?_
                 rotate_left 2
                 · (intro w' hU; (try dsimp only at hU); go_simp; with_reducible rfl)
                 · (simp only [Act.put, List.setIfInBounds_toArray, List.set_cons_zero, List.set_cons_succ]; rfl))
              | (refine pi_bound (v := ?_) (a' := ?_) rfl rfl rfl rfl ?_ ?_ ?_
                 rotate_left 2
                 · (go_simp; with_reducible rfl)
                 · (simp only [Act.put, List.setIfInBounds_toArray, List.set_cons_zero, List.set_cons_succ]; rfl))
              | (refine pi_acts rfl rfl rfl (fun K hK => ?_)
                 go_simp; try (go_wp2_with (first | (go_at_call 67; have hq := hg1; refine (HR2 _ hD).mono ?_; clear hq; rintro e w2 ⟨rfl, hD2, hf2⟩) | (go_at_call 66; refine HR1.mono ?_; rintro e w1 ⟨rfl, hA1, hf1⟩; have hg1 := hg0.trans hf1; have hD := HRF _ hf1)))
                 refine hK.out _ _ (by first | exact HK2 _ _ hg1 hf2 | exact HK1 _ hg1 | exact HK1 _ hg0) ?_
                 clear hK K))
            refine pi_done ?_
            have HBO := Lib.hid (Both.doc hA1 hne hf2 hD2)
            have HF4 := Lib.hid ((hF.step hg1 h2).step hf2 r2)
            clear hA1 hD hD2 hf1 hg1 hf2 hg0 HR1 HR2 HRF HK1 HK2 hF o0 o1 o2 o3 hbl
            go_wp2_with fail
            go_loopw [18] (fun i wr => ∃ jj : Nat, jj ≤ k ∧ i = .int .i64 jj ∧ Both wr b lb fb gb sb seed grace g' ∧ Fr none_ w wr) (fun i _ => k - (intOf i).toNat)
            case atStart => exact ⟨0, Nat.zero_le _, rfl, HBO.out, HF4.out⟩
            case round =>
              clear HBO HF4
              obtain ⟨jj, hjj, rfl, hbo, hF⟩ := hrel
              by_cases hlt2 : jj < k
              · have hd2 : decide ((jj : Int) < (k : Int)) = true := by simp; omega
                have hw1 : IntKind.i64.wrap ((jj : Int) + 1) = (jj : Int) + 1 := IntWalk.i64_in _ (by have := HKB.out; omega)
                obtain ⟨p', hp'⟩ : ∃ p', g'[jj]? = some p' := ⟨_, List.getElem?_eq_getElem (by omega)⟩
                have hgn := genC_in hp'
                have HG : Calls Try.prog 72 #[.pointer (some ⟨b, 0, none⟩), .int .i64 jj] wr.drew fun e w' => e = .returned (.int .i64 p'.1) ∧ wr.drew = w' := by
                  have := rgen_any hbo.r.drew jj
                  rw [hgn.1] at this
                  exact this
                have HS : Calls Try.prog 73 #[.pointer (some ⟨b, 0, none⟩), .int .i64 jj] wr.drew fun e w' => e = .returned (.int .i64 p'.2) ∧ wr.drew = w' := by
                  have := rsince_any hbo.r.drew jj
                  rw [hgn.2] at this
                  exact this
                obtain ⟨k0, k1, k2, k3⟩ := hbo.f.head
                obtain ⟨z0, z1, _, _⟩ := hbo.f.cells hp'
                have hl1 : (jj : Int) < (g'.length : Int) := by omega
                have HU := Lib.hid (show wr.drew.cell? ⟨fb, 2, none⟩ = some (.slice (some ⟨gb, 0, none⟩) g'.length g'.length) ∧ wr.drew.cell? ⟨fb, 3, none⟩ = some (.slice (some ⟨sb, 0, none⟩) g'.length g'.length) ∧ wr.drew.cell? ⟨gb, jj, none⟩ = some (.int .i64 p'.1) ∧ wr.drew.cell? ⟨sb, jj, none⟩ = some (.int .i64 p'.2) from ⟨k2, k3, z0, z1⟩)
                clear hgn
                go_wp2_with fail
                refine region_pi [2, 14] [] [0, 1, 3, 4, 5, 6, 7, 8, 9, 2, 10, 11, 12, 13, 15, 16, 17, 18, 19, 20, 21, 14, 22, 23] (fun w' => w'.cell? ⟨fb, 2, none⟩ = some (.slice (some ⟨gb, 0, none⟩) g'.length g'.length) ∧ w'.cell? ⟨fb, 3, none⟩ = some (.slice (some ⟨sb, 0, none⟩) g'.length g'.length) ∧ w'.cell? ⟨gb, jj, none⟩ = some (.int .i64 p'.1) ∧ w'.cell? ⟨sb, jj, none⟩ = some (.int .i64 p'.2)) (by as_aux_lemma => kernel_rfl) (by as_aux_lemma => kernel_rfl) (by as_aux_lemma => kernel_rfl) (by as_aux_lemma => kernel_rfl) (by as_aux_lemma => kernel_rfl) (by exact HU.out) ?_
                repeat (first
                  | (refine pi_float (v := ?_) (a' := ?_) rfl rfl rfl rfl ?_ ?_ ?_
                     rotate_left 2
                     · (intro w' hU; (try dsimp only at hU); go_simp; with_reducible rfl)
                     · (simp only [Act.put, List.setIfInBounds_toArray, List.set_cons_zero, List.set_cons_succ]; rfl))
                  | (refine pi_bound (v := ?_) (a' := ?_) rfl rfl rfl rfl ?_ ?_ ?_
                     rotate_left 2
                     · (go_simp; with_reducible rfl)
                     · (simp only [Act.put, List.setIfInBounds_toArray, List.set_cons_zero, List.set_cons_succ]; rfl))
                  | (refine pi_skip (a' := ?_) rfl rfl rfl ?_ ?_
                     rotate_left 1
                     · (simp only [Act.put, List.setIfInBounds_toArray, List.set_cons_zero, List.set_cons_succ]; rfl))
                  | (refine pi_acts rfl rfl rfl (fun K hK => ?_)
                     go_simp; try (go_wp2_with (first | (go_at_call 73; refine HS.mono ?_; rintro e w' ⟨rfl, rfl⟩) | (go_at_call 72; refine HG.mono ?_; rintro e w' ⟨rfl, rfl⟩)))
                     refine hK.out _ _ (by exact HU.out) ?_
                     clear hK K))
                refine pi_done ?_
                have HBO := Lib.hid (hbo.kept (Fr.refl none_ wr).drew)
                have HF4 := Lib.hid hF.drew
                clear hbo hF HG HS HU k0 k1 k2 k3 z0 z1
                go_wp2_with fail
                exact ⟨⟨jj + 1, by omega, by simp, HBO.out, HF4.out⟩, by simp [intOf]; omega⟩
              · have hd2 : decide ((jj : Int) < (k : Int)) = false := by simp; omega
                have HBO := Lib.hid hbo
                have HF4 := Lib.hid hF
                have hd3 : decide (jj < k) = false := decide_eq_false hlt2
                have hw1 : IntKind.i64.wrap ((j : Int) + 1) = (j : Int) + 1 := IntWalk.i64_in _ (by have := HL.out; omega)
                clear hbo hF hlt2 hjj
                go_wp2_with fail
                exact ⟨⟨j + 1, g', by omega, by simp, hgl, HBO.out, HF4.out⟩, by simp [intOf]; omega⟩
        · have dk : decide (bits .and .i64 q.a 7 < 2) = false := decide_eq_false hk2
          by_cases hk3 : bits .and .i64 q.a 7 = 3
          · have dk3 : (bits .and .i64 q.a 7 == 3) = true := by simp [hk3]
            as_aux_lemma =>
              have HR1 : Calls Try.prog 68 #[.pointer (some ⟨b, 0, none⟩), .int .i64 A, .int .i64 B, .int .i64 q.d] wo.drew fun e w' => e = .returned (.int .i64 (setC g A B q.d)) ∧ RgAt w' b lb seed grace (putG g (setC g A B q.d) A B q.d) ∧ Fr (two b lb) wo.drew w' := rset_any hbo.r.drew A B q.d
              have HR2 : ∀ wa, RfAt wa fb gb sb seed grace g → Calls Try.prog 69 #[.pointer (some ⟨fb, 0, none⟩), .int .i64 A, .int .i64 B, .int .i64 q.d] wa fun e w' => e = .returned (.int .i64 (setC g A B q.d)) ∧ RfAt w' fb gb sb seed grace (putG g (setC g A B q.d) A B q.d) ∧ Fr (rtwo gb sb) wa w' := fun wa h => fset_any h A B q.d
              have hgl : (putG g (setC g A B q.d) A B q.d).length = k := by rw [putG_length]; exact hg
              have HRF := fun w' (hf : Fr (two b lb) wo.drew w') => Both.ring hbo (hg0.trans hf)
              generalize putG g (setC g A B q.d) A B q.d = g' at *
              generalize setC g A B q.d = code at *
              try clear hk2
              try clear hk3
              clear hbo hO HCELL
              try (go_wp2_with fail)
              refine region_pi [7, 15] [2, 4, 6] [0, 1, 2, 3, 4, 5, 6, 8, 9, 10, 11, 12, 13, 14, 7, 15, 16] (fun w' => w'.cell? ⟨ob, 0, none⟩ = some (.int .i64 q.a) ∧ w'.cell? ⟨ob, 1, none⟩ = some (.int .i64 A) ∧ w'.cell? ⟨ob, 2, none⟩ = some (.int .i64 B) ∧ w'.cell? ⟨ob, 3, none⟩ = some (.int .i64 q.d)) (by as_aux_lemma => kernel_rfl) (by as_aux_lemma => kernel_rfl) (by as_aux_lemma => kernel_rfl) (by as_aux_lemma => kernel_rfl) (by as_aux_lemma => kernel_rfl) (by first | exact HK2 _ _ hg1 hf2 | exact HK1 _ hg1 | exact HK1 _ hg0) ?_
              repeat (first
                | (refine pi_float (v := ?_) (a' := ?_) rfl rfl rfl rfl ?_ ?_ ?_
                   rotate_left 2
                   · (intro w' hU; (try dsimp only at hU); go_simp; with_reducible rfl)
                   · (simp only [Act.put, List.setIfInBounds_toArray, List.set_cons_zero, List.set_cons_succ]; rfl))
                | (refine pi_bound (v := ?_) (a' := ?_) rfl rfl rfl rfl ?_ ?_ ?_
                   rotate_left 2
                   · (go_simp; with_reducible rfl)
                   · (simp only [Act.put, List.setIfInBounds_toArray, List.set_cons_zero, List.set_cons_succ]; rfl))
                | (refine pi_acts rfl rfl rfl (fun K hK => ?_)
                   go_simp; try (go_wp2_with (first | (go_at_call 69; have hq := hg1; refine (HR2 _ hD).mono ?_; clear hq; rintro e w2 ⟨rfl, hD2, hf2⟩) | (go_at_call 68; refine HR1.mono ?_; rintro e w1 ⟨rfl, hA1, hf1⟩; have hg1 := hg0.trans hf1; have hD := HRF _ hf1)))
                   refine hK.out _ _ (by first | exact HK2 _ _ hg1 hf2 | exact HK1 _ hg1 | exact HK1 _ hg0) ?_
                   clear hK K))
              refine pi_done ?_
              have HBO := Lib.hid (Both.doc hA1 hne hf2 hD2)
              have HF4 := Lib.hid ((hF.step hg1 h2).step hf2 r2)
              clear hA1 hD hD2 hf1 hg1 hf2 hg0 HR1 HR2 HRF HK1 HK2 hF o0 o1 o2 o3 hbl
              go_wp2_with fail
              go_loopw [18] (fun i wr => ∃ jj : Nat, jj ≤ k ∧ i = .int .i64 jj ∧ Both wr b lb fb gb sb seed grace g' ∧ Fr none_ w wr) (fun i _ => k - (intOf i).toNat)
              case atStart => exact ⟨0, Nat.zero_le _, rfl, HBO.out, HF4.out⟩
              case round =>
                clear HBO HF4
                obtain ⟨jj, hjj, rfl, hbo, hF⟩ := hrel
                by_cases hlt2 : jj < k
                · have hd2 : decide ((jj : Int) < (k : Int)) = true := by simp; omega
                  have hw1 : IntKind.i64.wrap ((jj : Int) + 1) = (jj : Int) + 1 := IntWalk.i64_in _ (by have := HKB.out; omega)
                  obtain ⟨p', hp'⟩ : ∃ p', g'[jj]? = some p' := ⟨_, List.getElem?_eq_getElem (by omega)⟩
                  have hgn := genC_in hp'
                  have HG : Calls Try.prog 72 #[.pointer (some ⟨b, 0, none⟩), .int .i64 jj] wr.drew fun e w' => e = .returned (.int .i64 p'.1) ∧ wr.drew = w' := by
                    have := rgen_any hbo.r.drew jj
                    rw [hgn.1] at this
                    exact this
                  have HS : Calls Try.prog 73 #[.pointer (some ⟨b, 0, none⟩), .int .i64 jj] wr.drew fun e w' => e = .returned (.int .i64 p'.2) ∧ wr.drew = w' := by
                    have := rsince_any hbo.r.drew jj
                    rw [hgn.2] at this
                    exact this
                  obtain ⟨k0, k1, k2, k3⟩ := hbo.f.head
                  obtain ⟨z0, z1, _, _⟩ := hbo.f.cells hp'
                  have hl1 : (jj : Int) < (g'.length : Int) := by omega
                  have HU := Lib.hid (show wr.drew.cell? ⟨fb, 2, none⟩ = some (.slice (some ⟨gb, 0, none⟩) g'.length g'.length) ∧ wr.drew.cell? ⟨fb, 3, none⟩ = some (.slice (some ⟨sb, 0, none⟩) g'.length g'.length) ∧ wr.drew.cell? ⟨gb, jj, none⟩ = some (.int .i64 p'.1) ∧ wr.drew.cell? ⟨sb, jj, none⟩ = some (.int .i64 p'.2) from ⟨k2, k3, z0, z1⟩)
                  clear hgn
                  go_wp2_with fail
                  refine region_pi [2, 14] [] [0, 1, 3, 4, 5, 6, 7, 8, 9, 2, 10, 11, 12, 13, 15, 16, 17, 18, 19, 20, 21, 14, 22, 23] (fun w' => w'.cell? ⟨fb, 2, none⟩ = some (.slice (some ⟨gb, 0, none⟩) g'.length g'.length) ∧ w'.cell? ⟨fb, 3, none⟩ = some (.slice (some ⟨sb, 0, none⟩) g'.length g'.length) ∧ w'.cell? ⟨gb, jj, none⟩ = some (.int .i64 p'.1) ∧ w'.cell? ⟨sb, jj, none⟩ = some (.int .i64 p'.2)) (by as_aux_lemma => kernel_rfl) (by as_aux_lemma => kernel_rfl) (by as_aux_lemma => kernel_rfl) (by as_aux_lemma => kernel_rfl) (by as_aux_lemma => kernel_rfl) (by exact HU.out) ?_
                  repeat (first
                    | (refine pi_float (v := ?_) (a' := ?_) rfl rfl rfl rfl ?_ ?_ ?_
                       rotate_left 2
                       · (intro w' hU; (try dsimp only at hU); go_simp; with_reducible rfl)
                       · (simp only [Act.put, List.setIfInBounds_toArray, List.set_cons_zero, List.set_cons_succ]; rfl))
                    | (refine pi_bound (v := ?_) (a' := ?_) rfl rfl rfl rfl ?_ ?_ ?_
                       rotate_left 2
                       · (go_simp; with_reducible rfl)
                       · (simp only [Act.put, List.setIfInBounds_toArray, List.set_cons_zero, List.set_cons_succ]; rfl))
                    | (refine pi_skip (a' := ?_) rfl rfl rfl ?_ ?_
                       rotate_left 1
                       · (simp only [Act.put, List.setIfInBounds_toArray, List.set_cons_zero, List.set_cons_succ]; rfl))
                    | (refine pi_acts rfl rfl rfl (fun K hK => ?_)
                       go_simp; try (go_wp2_with (first | (go_at_call 73; refine HS.mono ?_; rintro e w' ⟨rfl, rfl⟩) | (go_at_call 72; refine HG.mono ?_; rintro e w' ⟨rfl, rfl⟩)))
                       refine hK.out _ _ (by exact HU.out) ?_
                       clear hK K))
                  refine pi_done ?_
                  have HBO := Lib.hid (hbo.kept (Fr.refl none_ wr).drew)
                  have HF4 := Lib.hid hF.drew
                  clear hbo hF HG HS HU k0 k1 k2 k3 z0 z1
                  go_wp2_with fail
                  exact ⟨⟨jj + 1, by omega, by simp, HBO.out, HF4.out⟩, by simp [intOf]; omega⟩
                · have hd2 : decide ((jj : Int) < (k : Int)) = false := by simp; omega
                  have HBO := Lib.hid hbo
                  have HF4 := Lib.hid hF
                  have hd3 : decide (jj < k) = false := decide_eq_false hlt2
                  have hw1 : IntKind.i64.wrap ((j : Int) + 1) = (j : Int) + 1 := IntWalk.i64_in _ (by have := HL.out; omega)
                  clear hbo hF hlt2 hjj
                  go_wp2_with fail
                  exact ⟨⟨j + 1, g', by omega, by simp, hgl, HBO.out, HF4.out⟩, by simp [intOf]; omega⟩
          · have dk3 : (bits .and .i64 q.a 7 == 3) = false := by simp [hk3]
            as_aux_lemma =>
              obtain ⟨code, hcode⟩ : ∃ code, code = keyC g grace A B q.d := ⟨_, rfl⟩
              have HR1 : ∀ wa, RgAt wa b lb seed grace g → Calls Try.prog 70 #[.pointer (some ⟨b, 0, none⟩), .int .i64 A, .int .i64 B, .int .i64 q.d] wa fun e w' => e = .returned (.tuple #[keyv (keyK code seed A B), .int .i64 code]) ∧ RgAt w' b lb seed grace g ∧ Fr (two b lb) wa w' := fun wa h => by
                rw [hcode]; exact rkey_any h A B q.d
              have HR2 : ∀ wa, RfAt wa fb gb sb seed grace g → Calls Try.prog 71 #[.pointer (some ⟨fb, 0, none⟩), .int .i64 A, .int .i64 B, .int .i64 q.d] wa fun e w' => e = .returned (.tuple #[keyv (keyK code seed A B), .int .i64 code]) ∧ Fr none_ wa w' := fun wa h => by
                rw [hcode]; exact fkey_any h A B q.d
              have hgl := hg
              generalize keyK code seed A B = kk at *
              try clear hk2
              try clear hk3
              clear hcode HCELL
              unfold keyv at *
              try (go_wp2_with fail)
              refine (HR1 _ hbo.r).mono ?_
              rintro e w3 ⟨rfl, hA3, hf3⟩
              have hD3 := hbo.ring hf3
              have hx := (Fr.refl none_ w3).alloc (.cells #[.int .u64 (u kk.1), .int .u64 (u kk.2)] 56)
              have hX := Blk.new w3 #[.int .u64 (u kk.1), .int .u64 (u kk.2)] 56
              have hbo4 : Both (w3.alloc (.cells #[.int .u64 (u kk.1), .int .u64 (u kk.2)] 56)) b lb fb gb sb seed grace g := Both.kept ⟨hA3, hD3, hne⟩ hx
              have hO4 := (hO.kept hf3 (by rintro (h | h); exact hobn.1 h; exact hobn.2.1 h)).kept hx (fun f => f)
              have hF4 := (hF.step hf3 h2).trans hx
              clear hbo hO hF hA3 hD3 hf3 hx o0 o1 o2 o3 HK1 HK2 hg0 HR1 hbl
              have o0 := hO4.cell_of (i := 0) rfl
              have o1 := hO4.cell_of (i := 1) rfl
              have o2 := hO4.cell_of (i := 2) rfl
              have o3 := hO4.cell_of (i := 3) rfl
              go_wp2_with fail
              generalize hbx : w3.heap.size = bx at *
              generalize w3.alloc (.cells #[.int .u64 (u kk.1), .int .u64 (u kk.2)] 56) = w4 at *
              refine (HR2 _ hbo4.f).mono ?_
              rintro e w5 ⟨rfl, hf5⟩
              have hx := hf5.alloc (.cells #[.int .u64 (u kk.1), .int .u64 (u kk.2)] 56)
              have hX5 := hX.kept hx (fun f => f)
              have g0 : (w5.alloc (.cells #[.int .u64 (u kk.1), .int .u64 (u kk.2)] 56)).cell? ⟨bx, 0, none⟩ = some (.int .u64 (u kk.1)) := hX5.cell_of rfl
              have g1 : (w5.alloc (.cells #[.int .u64 (u kk.1), .int .u64 (u kk.2)] 56)).cell? ⟨bx, 1, none⟩ = some (.int .u64 (u kk.2)) := hX5.cell_of rfl
              have HBO := Lib.hid (hbo4.kept hx)
              have HF4 := Lib.hid (hF4.trans hx)
              clear hbo4 hF4 hO4 hX hX5 hx hf5 o0 o1 o2 o3 HR2
              go_wp2_with fail
              clear g0 g1
              generalize w5.alloc (.cells #[.int .u64 (u kk.1), .int .u64 (u kk.2)] 56) = w6 at *
              go_loopw [18] (fun i wr => ∃ jj : Nat, jj ≤ k ∧ i = .int .i64 jj ∧ Both wr b lb fb gb sb seed grace g ∧ Fr none_ w wr) (fun i _ => k - (intOf i).toNat)
              case atStart => exact ⟨0, Nat.zero_le _, rfl, HBO.out, HF4.out⟩
              case round =>
                clear HBO HF4
                obtain ⟨jj, hjj, rfl, hbo, hF⟩ := hrel
                by_cases hlt2 : jj < k
                · have hd2 : decide ((jj : Int) < (k : Int)) = true := by simp; omega
                  have hw1 : IntKind.i64.wrap ((jj : Int) + 1) = (jj : Int) + 1 := IntWalk.i64_in _ (by have := HKB.out; omega)
                  obtain ⟨p', hp'⟩ : ∃ p', g[jj]? = some p' := ⟨_, List.getElem?_eq_getElem (by omega)⟩
                  have hgn := genC_in hp'
                  have HG : Calls Try.prog 72 #[.pointer (some ⟨b, 0, none⟩), .int .i64 jj] wr.drew fun e w' => e = .returned (.int .i64 p'.1) ∧ wr.drew = w' := by
                    have := rgen_any hbo.r.drew jj
                    rw [hgn.1] at this
                    exact this
                  have HS : Calls Try.prog 73 #[.pointer (some ⟨b, 0, none⟩), .int .i64 jj] wr.drew fun e w' => e = .returned (.int .i64 p'.2) ∧ wr.drew = w' := by
                    have := rsince_any hbo.r.drew jj
                    rw [hgn.2] at this
                    exact this
                  obtain ⟨k0, k1, k2, k3⟩ := hbo.f.head
                  obtain ⟨z0, z1, _, _⟩ := hbo.f.cells hp'
                  have hl1 : (jj : Int) < (g.length : Int) := by omega
                  have HU := Lib.hid (show wr.drew.cell? ⟨fb, 2, none⟩ = some (.slice (some ⟨gb, 0, none⟩) g.length g.length) ∧ wr.drew.cell? ⟨fb, 3, none⟩ = some (.slice (some ⟨sb, 0, none⟩) g.length g.length) ∧ wr.drew.cell? ⟨gb, jj, none⟩ = some (.int .i64 p'.1) ∧ wr.drew.cell? ⟨sb, jj, none⟩ = some (.int .i64 p'.2) from ⟨k2, k3, z0, z1⟩)
                  clear hgn
                  go_wp2_with fail
                  refine region_pi [2, 14] [] [0, 1, 3, 4, 5, 6, 7, 8, 9, 2, 10, 11, 12, 13, 15, 16, 17, 18, 19, 20, 21, 14, 22, 23] (fun w' => w'.cell? ⟨fb, 2, none⟩ = some (.slice (some ⟨gb, 0, none⟩) g.length g.length) ∧ w'.cell? ⟨fb, 3, none⟩ = some (.slice (some ⟨sb, 0, none⟩) g.length g.length) ∧ w'.cell? ⟨gb, jj, none⟩ = some (.int .i64 p'.1) ∧ w'.cell? ⟨sb, jj, none⟩ = some (.int .i64 p'.2)) (by as_aux_lemma => kernel_rfl) (by as_aux_lemma => kernel_rfl) (by as_aux_lemma => kernel_rfl) (by as_aux_lemma => kernel_rfl) (by as_aux_lemma => kernel_rfl) (by exact HU.out) ?_
                  repeat (first
                    | (refine pi_float (v := ?_) (a' := ?_) rfl rfl rfl rfl ?_ ?_ ?_
                       rotate_left 2
                       · (intro w' hU; (try dsimp only at hU); go_simp; with_reducible rfl)
                       · (simp only [Act.put, List.setIfInBounds_toArray, List.set_cons_zero, List.set_cons_succ]; rfl))
                    | (refine pi_bound (v := ?_) (a' := ?_) rfl rfl rfl rfl ?_ ?_ ?_
                       rotate_left 2
                       · (go_simp; with_reducible rfl)
                       · (simp only [Act.put, List.setIfInBounds_toArray, List.set_cons_zero, List.set_cons_succ]; rfl))
                    | (refine pi_skip (a' := ?_) rfl rfl rfl ?_ ?_
                       rotate_left 1
                       · (simp only [Act.put, List.setIfInBounds_toArray, List.set_cons_zero, List.set_cons_succ]; rfl))
                    | (refine pi_acts rfl rfl rfl (fun K hK => ?_)
                       go_simp; try (go_wp2_with (first | (go_at_call 73; refine HS.mono ?_; rintro e w' ⟨rfl, rfl⟩) | (go_at_call 72; refine HG.mono ?_; rintro e w' ⟨rfl, rfl⟩)))
                       refine hK.out _ _ (by exact HU.out) ?_
                       clear hK K))
                  refine pi_done ?_
                  have HBO := Lib.hid (hbo.kept (Fr.refl none_ wr).drew)
                  have HF4 := Lib.hid hF.drew
                  clear hbo hF HG HS HU k0 k1 k2 k3 z0 z1
                  go_wp2_with fail
                  exact ⟨⟨jj + 1, by omega, by simp, HBO.out, HF4.out⟩, by simp [intOf]; omega⟩
                · have hd2 : decide ((jj : Int) < (k : Int)) = false := by simp; omega
                  have HBO := Lib.hid hbo
                  have HF4 := Lib.hid hF
                  have hd3 : decide (jj < k) = false := decide_eq_false hlt2
                  have hw1 : IntKind.i64.wrap ((j : Int) + 1) = (j : Int) + 1 := IntWalk.i64_in _ (by have := HL.out; omega)
                  clear hbo hF hlt2 hjj
                  go_wp2_with fail
                  exact ⟨⟨j + 1, g, by omega, by simp, hgl, HBO.out, HF4.out⟩, by simp [intOf]; omega⟩
      · have d3 : decide ((j : Int).tmod 4 < 3) = false := decide_eq_false h3
        have hBle := hqo.2.2.1.2
        have hO := Blk.new wr #[.int .i64 q.a, .int .i64 q.b, .int .i64 q.c, .int .i64 q.d] 95
        have hx := (Fr.refl none_ wr).alloc (.cells #[.int .i64 q.a, .int .i64 q.b, .int .i64 q.c, .int .i64 q.d] 95)
        have hbo1 := hbo.kept hx
        have hF1 := hF.trans hx
        clear hbo hF hx
        go_wp2_with fail
        · skip
          obtain ⟨ob, hob⟩ : ∃ ob, ob = wr.heap.size := ⟨_, rfl⟩
          have hobn := hobs
          rw [← hob] at hO hobn
          generalize wr.heap.size = ob0 at *
          subst hob
          generalize wr.alloc (.cells #[.int .i64 q.a, .int .i64 q.b, .int .i64 q.c, .int .i64 q.d] 95) = wo at *
          generalize q.b = A at *
          generalize q.c = B at *
          have hbo := hbo1
          have hF := hF1
          clear hbo1 hF1
          have hbl := hbo.r
          have hobn : ob ≠ b ∧ ob ≠ lb ∧ ob ≠ gb ∧ ob ≠ sb ∧ ob ≠ fb := hobn
          have HK1 : ∀ w', Fr (two b lb) wo w' → w'.cell? ⟨ob, 0, none⟩ = some (.int .i64 q.a) ∧ w'.cell? ⟨ob, 1, none⟩ = some (.int .i64 A) ∧ w'.cell? ⟨ob, 2, none⟩ = some (.int .i64 B) ∧ w'.cell? ⟨ob, 3, none⟩ = some (.int .i64 q.d) := fun w' hf => by
            have := hO.kept hf (by rintro (h | h); exact hobn.1 h; exact hobn.2.1 h)
            exact ⟨this.cell_of rfl, this.cell_of rfl, this.cell_of rfl, this.cell_of rfl⟩
          have HK2 : ∀ w1 w', Fr (two b lb) wo w1 → Fr (rtwo gb sb) w1 w' → w'.cell? ⟨ob, 0, none⟩ = some (.int .i64 q.a) ∧ w'.cell? ⟨ob, 1, none⟩ = some (.int .i64 A) ∧ w'.cell? ⟨ob, 2, none⟩ = some (.int .i64 B) ∧ w'.cell? ⟨ob, 3, none⟩ = some (.int .i64 q.d) := fun w1 w' hf hf2 => by
            have := (hO.kept hf (by rintro (h | h); exact hobn.1 h; exact hobn.2.1 h)).kept hf2 (by rintro (h | h); exact hobn.2.2.1 h; exact hobn.2.2.2.1 h)
            exact ⟨this.cell_of rfl, this.cell_of rfl, this.cell_of rfl, this.cell_of rfl⟩
          obtain ⟨o0, o1, o2, o3⟩ := HK1 wo (Fr.refl _ _)
          have hne := hbo.ne
          have hg0 : Fr (two b lb) wo wo.drew := (Fr.refl _ _).drew
          as_aux_lemma =>
            have HR1 : Calls Try.prog 66 #[.pointer (some ⟨b, 0, none⟩), .int .i64 A, .int .i64 B, .int .i64 q.d] wo.drew fun e w' => e = .returned (.int .i64 (rotC g A B q.d)) ∧ RgAt w' b lb seed grace (putG g (rotC g A B q.d) A B q.d) ∧ Fr (two b lb) wo.drew w' := rrot_any hbo.r.drew A B q.d
            have HR2 : ∀ wa, RfAt wa fb gb sb seed grace g → Calls Try.prog 67 #[.pointer (some ⟨fb, 0, none⟩), .int .i64 A, .int .i64 B, .int .i64 q.d] wa fun e w' => e = .returned (.int .i64 (rotC g A B q.d)) ∧ RfAt w' fb gb sb seed grace (putG g (rotC g A B q.d) A B q.d) ∧ Fr (rtwo gb sb) wa w' := fun wa h => frot_any h A B q.d hBle
            have hgl : (putG g (rotC g A B q.d) A B q.d).length = k := by rw [putG_length]; exact hg
            have HRF := fun w' (hf : Fr (two b lb) wo.drew w') => Both.ring hbo (hg0.trans hf)
            generalize putG g (rotC g A B q.d) A B q.d = g' at *
            generalize rotC g A B q.d = code at *
            try clear hk2
            try clear hk3
            clear hbo hO HCELL
            try (go_wp2_with fail)
            refine region_pi [7, 15] [2, 4, 6] [0, 1, 2, 3, 4, 5, 6, 8, 9, 10, 11, 12, 13, 14, 7, 15, 16] (fun w' => w'.cell? ⟨ob, 0, none⟩ = some (.int .i64 q.a) ∧ w'.cell? ⟨ob, 1, none⟩ = some (.int .i64 A) ∧ w'.cell? ⟨ob, 2, none⟩ = some (.int .i64 B) ∧ w'.cell? ⟨ob, 3, none⟩ = some (.int .i64 q.d)) (by as_aux_lemma => kernel_rfl) (by as_aux_lemma => kernel_rfl) (by as_aux_lemma => kernel_rfl) (by as_aux_lemma => kernel_rfl) (by as_aux_lemma => kernel_rfl) (by first | exact HK2 _ _ hg1 hf2 | exact HK1 _ hg1 | exact HK1 _ hg0) ?_
            repeat (first
              | (refine pi_float (v := ?_) (a' := ?_) rfl rfl rfl rfl ?_ ?_ ?_
                 rotate_left 2
                 · (intro w' hU; (try dsimp only at hU); go_simp; with_reducible rfl)
                 · (simp only [Act.put, List.setIfInBounds_toArray, List.set_cons_zero, List.set_cons_succ]; rfl))
              | (refine pi_bound (v := ?_) (a' := ?_) rfl rfl rfl rfl ?_ ?_ ?_
                 rotate_left 2
                 · (go_simp; with_reducible rfl)
                 · (simp only [Act.put, List.setIfInBounds_toArray, List.set_cons_zero, List.set_cons_succ]; rfl))
              | (refine pi_acts rfl rfl rfl (fun K hK => ?_)
                 go_simp; try (go_wp2_with (first | (go_at_call 67; have hq := hg1; refine (HR2 _ hD).mono ?_; clear hq; rintro e w2 ⟨rfl, hD2, hf2⟩) | (go_at_call 66; refine HR1.mono ?_; rintro e w1 ⟨rfl, hA1, hf1⟩; have hg1 := hg0.trans hf1; have hD := HRF _ hf1)))
                 refine hK.out _ _ (by first | exact HK2 _ _ hg1 hf2 | exact HK1 _ hg1 | exact HK1 _ hg0) ?_
                 clear hK K))
            refine pi_done ?_
            have HBO := Lib.hid (Both.doc hA1 hne hf2 hD2)
            have HF4 := Lib.hid ((hF.step hg1 h2).step hf2 r2)
            clear hA1 hD hD2 hf1 hg1 hf2 hg0 HR1 HR2 HRF HK1 HK2 hF o0 o1 o2 o3 hbl
            go_wp2_with fail
            go_loopw [18] (fun i wr => ∃ jj : Nat, jj ≤ k ∧ i = .int .i64 jj ∧ Both wr b lb fb gb sb seed grace g' ∧ Fr none_ w wr) (fun i _ => k - (intOf i).toNat)
            case atStart => exact ⟨0, Nat.zero_le _, rfl, HBO.out, HF4.out⟩
            case round =>
              clear HBO HF4
              obtain ⟨jj, hjj, rfl, hbo, hF⟩ := hrel
              by_cases hlt2 : jj < k
              · have hd2 : decide ((jj : Int) < (k : Int)) = true := by simp; omega
                have hw1 : IntKind.i64.wrap ((jj : Int) + 1) = (jj : Int) + 1 := IntWalk.i64_in _ (by have := HKB.out; omega)
                obtain ⟨p', hp'⟩ : ∃ p', g'[jj]? = some p' := ⟨_, List.getElem?_eq_getElem (by omega)⟩
                have hgn := genC_in hp'
                have HG : Calls Try.prog 72 #[.pointer (some ⟨b, 0, none⟩), .int .i64 jj] wr.drew fun e w' => e = .returned (.int .i64 p'.1) ∧ wr.drew = w' := by
                  have := rgen_any hbo.r.drew jj
                  rw [hgn.1] at this
                  exact this
                have HS : Calls Try.prog 73 #[.pointer (some ⟨b, 0, none⟩), .int .i64 jj] wr.drew fun e w' => e = .returned (.int .i64 p'.2) ∧ wr.drew = w' := by
                  have := rsince_any hbo.r.drew jj
                  rw [hgn.2] at this
                  exact this
                obtain ⟨k0, k1, k2, k3⟩ := hbo.f.head
                obtain ⟨z0, z1, _, _⟩ := hbo.f.cells hp'
                have hl1 : (jj : Int) < (g'.length : Int) := by omega
                have HU := Lib.hid (show wr.drew.cell? ⟨fb, 2, none⟩ = some (.slice (some ⟨gb, 0, none⟩) g'.length g'.length) ∧ wr.drew.cell? ⟨fb, 3, none⟩ = some (.slice (some ⟨sb, 0, none⟩) g'.length g'.length) ∧ wr.drew.cell? ⟨gb, jj, none⟩ = some (.int .i64 p'.1) ∧ wr.drew.cell? ⟨sb, jj, none⟩ = some (.int .i64 p'.2) from ⟨k2, k3, z0, z1⟩)
                clear hgn
                go_wp2_with fail
                refine region_pi [2, 14] [] [0, 1, 3, 4, 5, 6, 7, 8, 9, 2, 10, 11, 12, 13, 15, 16, 17, 18, 19, 20, 21, 14, 22, 23] (fun w' => w'.cell? ⟨fb, 2, none⟩ = some (.slice (some ⟨gb, 0, none⟩) g'.length g'.length) ∧ w'.cell? ⟨fb, 3, none⟩ = some (.slice (some ⟨sb, 0, none⟩) g'.length g'.length) ∧ w'.cell? ⟨gb, jj, none⟩ = some (.int .i64 p'.1) ∧ w'.cell? ⟨sb, jj, none⟩ = some (.int .i64 p'.2)) (by as_aux_lemma => kernel_rfl) (by as_aux_lemma => kernel_rfl) (by as_aux_lemma => kernel_rfl) (by as_aux_lemma => kernel_rfl) (by as_aux_lemma => kernel_rfl) (by exact HU.out) ?_
                repeat (first
                  | (refine pi_float (v := ?_) (a' := ?_) rfl rfl rfl rfl ?_ ?_ ?_
                     rotate_left 2
                     · (intro w' hU; (try dsimp only at hU); go_simp; with_reducible rfl)
                     · (simp only [Act.put, List.setIfInBounds_toArray, List.set_cons_zero, List.set_cons_succ]; rfl))
                  | (refine pi_bound (v := ?_) (a' := ?_) rfl rfl rfl rfl ?_ ?_ ?_
                     rotate_left 2
                     · (go_simp; with_reducible rfl)
                     · (simp only [Act.put, List.setIfInBounds_toArray, List.set_cons_zero, List.set_cons_succ]; rfl))
                  | (refine pi_skip (a' := ?_) rfl rfl rfl ?_ ?_
                     rotate_left 1
                     · (simp only [Act.put, List.setIfInBounds_toArray, List.set_cons_zero, List.set_cons_succ]; rfl))
                  | (refine pi_acts rfl rfl rfl (fun K hK => ?_)
                     go_simp; try (go_wp2_with (first | (go_at_call 73; refine HS.mono ?_; rintro e w' ⟨rfl, rfl⟩) | (go_at_call 72; refine HG.mono ?_; rintro e w' ⟨rfl, rfl⟩)))
                     refine hK.out _ _ (by exact HU.out) ?_
                     clear hK K))
                refine pi_done ?_
                have HBO := Lib.hid (hbo.kept (Fr.refl none_ wr).drew)
                have HF4 := Lib.hid hF.drew
                clear hbo hF HG HS HU k0 k1 k2 k3 z0 z1
                go_wp2_with fail
                exact ⟨⟨jj + 1, by omega, by simp, HBO.out, HF4.out⟩, by simp [intOf]; omega⟩
              · have hd2 : decide ((jj : Int) < (k : Int)) = false := by simp; omega
                have HBO := Lib.hid hbo
                have HF4 := Lib.hid hF
                have hd3 : decide (jj < k) = false := decide_eq_false hlt2
                have hw1 : IntKind.i64.wrap ((j : Int) + 1) = (j : Int) + 1 := IntWalk.i64_in _ (by have := HL.out; omega)
                clear hbo hF hlt2 hjj
                go_wp2_with fail
                exact ⟨⟨j + 1, g', by omega, by simp, hgl, HBO.out, HF4.out⟩, by simp [intOf]; omega⟩
        · skip
          obtain ⟨ob, hob⟩ : ∃ ob, ob = wr.heap.size := ⟨_, rfl⟩
          have hobn := hobs
          rw [← hob] at hO hobn
          generalize wr.heap.size = ob0 at *
          subst hob
          generalize wr.alloc (.cells #[.int .i64 q.a, .int .i64 q.b, .int .i64 q.c, .int .i64 q.d] 95) = wo at *
          generalize q.b = A at *
          generalize q.c = B at *
          have hbo := hbo1
          have hF := hF1
          clear hbo1 hF1
          have hbl := hbo.r
          have hobn : ob ≠ b ∧ ob ≠ lb ∧ ob ≠ gb ∧ ob ≠ sb ∧ ob ≠ fb := hobn
          have HK1 : ∀ w', Fr (two b lb) wo w' → w'.cell? ⟨ob, 0, none⟩ = some (.int .i64 q.a) ∧ w'.cell? ⟨ob, 1, none⟩ = some (.int .i64 A) ∧ w'.cell? ⟨ob, 2, none⟩ = some (.int .i64 B) ∧ w'.cell? ⟨ob, 3, none⟩ = some (.int .i64 q.d) := fun w' hf => by
            have := hO.kept hf (by rintro (h | h); exact hobn.1 h; exact hobn.2.1 h)
            exact ⟨this.cell_of rfl, this.cell_of rfl, this.cell_of rfl, this.cell_of rfl⟩
          have HK2 : ∀ w1 w', Fr (two b lb) wo w1 → Fr (rtwo gb sb) w1 w' → w'.cell? ⟨ob, 0, none⟩ = some (.int .i64 q.a) ∧ w'.cell? ⟨ob, 1, none⟩ = some (.int .i64 A) ∧ w'.cell? ⟨ob, 2, none⟩ = some (.int .i64 B) ∧ w'.cell? ⟨ob, 3, none⟩ = some (.int .i64 q.d) := fun w1 w' hf hf2 => by
            have := (hO.kept hf (by rintro (h | h); exact hobn.1 h; exact hobn.2.1 h)).kept hf2 (by rintro (h | h); exact hobn.2.2.1 h; exact hobn.2.2.2.1 h)
            exact ⟨this.cell_of rfl, this.cell_of rfl, this.cell_of rfl, this.cell_of rfl⟩
          obtain ⟨o0, o1, o2, o3⟩ := HK1 wo (Fr.refl _ _)
          have hne := hbo.ne
          have hg0 : Fr (two b lb) wo wo.drew := (Fr.refl _ _).drew
          as_aux_lemma =>
            have HR1 : Calls Try.prog 68 #[.pointer (some ⟨b, 0, none⟩), .int .i64 A, .int .i64 B, .int .i64 q.d] wo.drew fun e w' => e = .returned (.int .i64 (setC g A B q.d)) ∧ RgAt w' b lb seed grace (putG g (setC g A B q.d) A B q.d) ∧ Fr (two b lb) wo.drew w' := rset_any hbo.r.drew A B q.d
            have HR2 : ∀ wa, RfAt wa fb gb sb seed grace g → Calls Try.prog 69 #[.pointer (some ⟨fb, 0, none⟩), .int .i64 A, .int .i64 B, .int .i64 q.d] wa fun e w' => e = .returned (.int .i64 (setC g A B q.d)) ∧ RfAt w' fb gb sb seed grace (putG g (setC g A B q.d) A B q.d) ∧ Fr (rtwo gb sb) wa w' := fun wa h => fset_any h A B q.d
            have hgl : (putG g (setC g A B q.d) A B q.d).length = k := by rw [putG_length]; exact hg
            have HRF := fun w' (hf : Fr (two b lb) wo.drew w') => Both.ring hbo (hg0.trans hf)
            generalize putG g (setC g A B q.d) A B q.d = g' at *
            generalize setC g A B q.d = code at *
            try clear hk2
            try clear hk3
            clear hbo hO HCELL
            try (go_wp2_with fail)
            refine region_pi [7, 15] [2, 4, 6] [0, 1, 2, 3, 4, 5, 6, 8, 9, 10, 11, 12, 13, 14, 7, 15, 16] (fun w' => w'.cell? ⟨ob, 0, none⟩ = some (.int .i64 q.a) ∧ w'.cell? ⟨ob, 1, none⟩ = some (.int .i64 A) ∧ w'.cell? ⟨ob, 2, none⟩ = some (.int .i64 B) ∧ w'.cell? ⟨ob, 3, none⟩ = some (.int .i64 q.d)) (by as_aux_lemma => kernel_rfl) (by as_aux_lemma => kernel_rfl) (by as_aux_lemma => kernel_rfl) (by as_aux_lemma => kernel_rfl) (by as_aux_lemma => kernel_rfl) (by first | exact HK2 _ _ hg1 hf2 | exact HK1 _ hg1 | exact HK1 _ hg0) ?_
            repeat (first
              | (refine pi_float (v := ?_) (a' := ?_) rfl rfl rfl rfl ?_ ?_ ?_
                 rotate_left 2
                 · (intro w' hU; (try dsimp only at hU); go_simp; with_reducible rfl)
                 · (simp only [Act.put, List.setIfInBounds_toArray, List.set_cons_zero, List.set_cons_succ]; rfl))
              | (refine pi_bound (v := ?_) (a' := ?_) rfl rfl rfl rfl ?_ ?_ ?_
                 rotate_left 2
                 · (go_simp; with_reducible rfl)
                 · (simp only [Act.put, List.setIfInBounds_toArray, List.set_cons_zero, List.set_cons_succ]; rfl))
              | (refine pi_acts rfl rfl rfl (fun K hK => ?_)
                 go_simp; try (go_wp2_with (first | (go_at_call 69; have hq := hg1; refine (HR2 _ hD).mono ?_; clear hq; rintro e w2 ⟨rfl, hD2, hf2⟩) | (go_at_call 68; refine HR1.mono ?_; rintro e w1 ⟨rfl, hA1, hf1⟩; have hg1 := hg0.trans hf1; have hD := HRF _ hf1)))
                 refine hK.out _ _ (by first | exact HK2 _ _ hg1 hf2 | exact HK1 _ hg1 | exact HK1 _ hg0) ?_
                 clear hK K))
            refine pi_done ?_
            have HBO := Lib.hid (Both.doc hA1 hne hf2 hD2)
            have HF4 := Lib.hid ((hF.step hg1 h2).step hf2 r2)
            clear hA1 hD hD2 hf1 hg1 hf2 hg0 HR1 HR2 HRF HK1 HK2 hF o0 o1 o2 o3 hbl
            go_wp2_with fail
            go_loopw [18] (fun i wr => ∃ jj : Nat, jj ≤ k ∧ i = .int .i64 jj ∧ Both wr b lb fb gb sb seed grace g' ∧ Fr none_ w wr) (fun i _ => k - (intOf i).toNat)
            case atStart => exact ⟨0, Nat.zero_le _, rfl, HBO.out, HF4.out⟩
            case round =>
              clear HBO HF4
              obtain ⟨jj, hjj, rfl, hbo, hF⟩ := hrel
              by_cases hlt2 : jj < k
              · have hd2 : decide ((jj : Int) < (k : Int)) = true := by simp; omega
                have hw1 : IntKind.i64.wrap ((jj : Int) + 1) = (jj : Int) + 1 := IntWalk.i64_in _ (by have := HKB.out; omega)
                obtain ⟨p', hp'⟩ : ∃ p', g'[jj]? = some p' := ⟨_, List.getElem?_eq_getElem (by omega)⟩
                have hgn := genC_in hp'
                have HG : Calls Try.prog 72 #[.pointer (some ⟨b, 0, none⟩), .int .i64 jj] wr.drew fun e w' => e = .returned (.int .i64 p'.1) ∧ wr.drew = w' := by
                  have := rgen_any hbo.r.drew jj
                  rw [hgn.1] at this
                  exact this
                have HS : Calls Try.prog 73 #[.pointer (some ⟨b, 0, none⟩), .int .i64 jj] wr.drew fun e w' => e = .returned (.int .i64 p'.2) ∧ wr.drew = w' := by
                  have := rsince_any hbo.r.drew jj
                  rw [hgn.2] at this
                  exact this
                obtain ⟨k0, k1, k2, k3⟩ := hbo.f.head
                obtain ⟨z0, z1, _, _⟩ := hbo.f.cells hp'
                have hl1 : (jj : Int) < (g'.length : Int) := by omega
                have HU := Lib.hid (show wr.drew.cell? ⟨fb, 2, none⟩ = some (.slice (some ⟨gb, 0, none⟩) g'.length g'.length) ∧ wr.drew.cell? ⟨fb, 3, none⟩ = some (.slice (some ⟨sb, 0, none⟩) g'.length g'.length) ∧ wr.drew.cell? ⟨gb, jj, none⟩ = some (.int .i64 p'.1) ∧ wr.drew.cell? ⟨sb, jj, none⟩ = some (.int .i64 p'.2) from ⟨k2, k3, z0, z1⟩)
                clear hgn
                go_wp2_with fail
                refine region_pi [2, 14] [] [0, 1, 3, 4, 5, 6, 7, 8, 9, 2, 10, 11, 12, 13, 15, 16, 17, 18, 19, 20, 21, 14, 22, 23] (fun w' => w'.cell? ⟨fb, 2, none⟩ = some (.slice (some ⟨gb, 0, none⟩) g'.length g'.length) ∧ w'.cell? ⟨fb, 3, none⟩ = some (.slice (some ⟨sb, 0, none⟩) g'.length g'.length) ∧ w'.cell? ⟨gb, jj, none⟩ = some (.int .i64 p'.1) ∧ w'.cell? ⟨sb, jj, none⟩ = some (.int .i64 p'.2)) (by as_aux_lemma => kernel_rfl) (by as_aux_lemma => kernel_rfl) (by as_aux_lemma => kernel_rfl) (by as_aux_lemma => kernel_rfl) (by as_aux_lemma => kernel_rfl) (by exact HU.out) ?_
                repeat (first
                  | (refine pi_float (v := ?_) (a' := ?_) rfl rfl rfl rfl ?_ ?_ ?_
                     rotate_left 2
                     · (intro w' hU; (try dsimp only at hU); go_simp; with_reducible rfl)
                     · (simp only [Act.put, List.setIfInBounds_toArray, List.set_cons_zero, List.set_cons_succ]; rfl))
                  | (refine pi_bound (v := ?_) (a' := ?_) rfl rfl rfl rfl ?_ ?_ ?_
                     rotate_left 2
                     · (go_simp; with_reducible rfl)
                     · (simp only [Act.put, List.setIfInBounds_toArray, List.set_cons_zero, List.set_cons_succ]; rfl))
                  | (refine pi_skip (a' := ?_) rfl rfl rfl ?_ ?_
                     rotate_left 1
                     · (simp only [Act.put, List.setIfInBounds_toArray, List.set_cons_zero, List.set_cons_succ]; rfl))
                  | (refine pi_acts rfl rfl rfl (fun K hK => ?_)
                     go_simp; try (go_wp2_with (first | (go_at_call 73; refine HS.mono ?_; rintro e w' ⟨rfl, rfl⟩) | (go_at_call 72; refine HG.mono ?_; rintro e w' ⟨rfl, rfl⟩)))
                     refine hK.out _ _ (by exact HU.out) ?_
                     clear hK K))
                refine pi_done ?_
                have HBO := Lib.hid (hbo.kept (Fr.refl none_ wr).drew)
                have HF4 := Lib.hid hF.drew
                clear hbo hF HG HS HU k0 k1 k2 k3 z0 z1
                go_wp2_with fail
                exact ⟨⟨jj + 1, by omega, by simp, HBO.out, HF4.out⟩, by simp [intOf]; omega⟩
              · have hd2 : decide ((jj : Int) < (k : Int)) = false := by simp; omega
                have HBO := Lib.hid hbo
                have HF4 := Lib.hid hF
                have hd3 : decide (jj < k) = false := decide_eq_false hlt2
                have hw1 : IntKind.i64.wrap ((j : Int) + 1) = (j : Int) + 1 := IntWalk.i64_in _ (by have := HL.out; omega)
                clear hbo hF hlt2 hjj
                go_wp2_with fail
                exact ⟨⟨j + 1, g', by omega, by simp, hgl, HBO.out, HF4.out⟩, by simp [intOf]; omega⟩
        · skip
          obtain ⟨ob, hob⟩ : ∃ ob, ob = wr.heap.size := ⟨_, rfl⟩
          have hobn := hobs
          rw [← hob] at hO hobn
          generalize wr.heap.size = ob0 at *
          subst hob
          generalize wr.alloc (.cells #[.int .i64 q.a, .int .i64 q.b, .int .i64 q.c, .int .i64 q.d] 95) = wo at *
          generalize q.b = A at *
          generalize q.c = B at *
          have hbo := hbo1
          have hF := hF1
          clear hbo1 hF1
          have hbl := hbo.r
          have hobn : ob ≠ b ∧ ob ≠ lb ∧ ob ≠ gb ∧ ob ≠ sb ∧ ob ≠ fb := hobn
          have HK1 : ∀ w', Fr (two b lb) wo w' → w'.cell? ⟨ob, 0, none⟩ = some (.int .i64 q.a) ∧ w'.cell? ⟨ob, 1, none⟩ = some (.int .i64 A) ∧ w'.cell? ⟨ob, 2, none⟩ = some (.int .i64 B) ∧ w'.cell? ⟨ob, 3, none⟩ = some (.int .i64 q.d) := fun w' hf => by
            have := hO.kept hf (by rintro (h | h); exact hobn.1 h; exact hobn.2.1 h)
            exact ⟨this.cell_of rfl, this.cell_of rfl, this.cell_of rfl, this.cell_of rfl⟩
          have HK2 : ∀ w1 w', Fr (two b lb) wo w1 → Fr (rtwo gb sb) w1 w' → w'.cell? ⟨ob, 0, none⟩ = some (.int .i64 q.a) ∧ w'.cell? ⟨ob, 1, none⟩ = some (.int .i64 A) ∧ w'.cell? ⟨ob, 2, none⟩ = some (.int .i64 B) ∧ w'.cell? ⟨ob, 3, none⟩ = some (.int .i64 q.d) := fun w1 w' hf hf2 => by
            have := (hO.kept hf (by rintro (h | h); exact hobn.1 h; exact hobn.2.1 h)).kept hf2 (by rintro (h | h); exact hobn.2.2.1 h; exact hobn.2.2.2.1 h)
            exact ⟨this.cell_of rfl, this.cell_of rfl, this.cell_of rfl, this.cell_of rfl⟩
          obtain ⟨o0, o1, o2, o3⟩ := HK1 wo (Fr.refl _ _)
          have hne := hbo.ne
          have hg0 : Fr (two b lb) wo wo.drew := (Fr.refl _ _).drew
          as_aux_lemma =>
            obtain ⟨code, hcode⟩ : ∃ code, code = keyC g grace A B q.d := ⟨_, rfl⟩
            have HR1 : ∀ wa, RgAt wa b lb seed grace g → Calls Try.prog 70 #[.pointer (some ⟨b, 0, none⟩), .int .i64 A, .int .i64 B, .int .i64 q.d] wa fun e w' => e = .returned (.tuple #[keyv (keyK code seed A B), .int .i64 code]) ∧ RgAt w' b lb seed grace g ∧ Fr (two b lb) wa w' := fun wa h => by
              rw [hcode]; exact rkey_any h A B q.d
            have HR2 : ∀ wa, RfAt wa fb gb sb seed grace g → Calls Try.prog 71 #[.pointer (some ⟨fb, 0, none⟩), .int .i64 A, .int .i64 B, .int .i64 q.d] wa fun e w' => e = .returned (.tuple #[keyv (keyK code seed A B), .int .i64 code]) ∧ Fr none_ wa w' := fun wa h => by
              rw [hcode]; exact fkey_any h A B q.d
            have hgl := hg
            generalize keyK code seed A B = kk at *
            try clear hk2
            try clear hk3
            clear hcode HCELL
            unfold keyv at *
            try (go_wp2_with fail)
            refine (HR1 _ hbo.r).mono ?_
            rintro e w3 ⟨rfl, hA3, hf3⟩
            have hD3 := hbo.ring hf3
            have hx := (Fr.refl none_ w3).alloc (.cells #[.int .u64 (u kk.1), .int .u64 (u kk.2)] 56)
            have hX := Blk.new w3 #[.int .u64 (u kk.1), .int .u64 (u kk.2)] 56
            have hbo4 : Both (w3.alloc (.cells #[.int .u64 (u kk.1), .int .u64 (u kk.2)] 56)) b lb fb gb sb seed grace g := Both.kept ⟨hA3, hD3, hne⟩ hx
            have hO4 := (hO.kept hf3 (by rintro (h | h); exact hobn.1 h; exact hobn.2.1 h)).kept hx (fun f => f)
            have hF4 := (hF.step hf3 h2).trans hx
            clear hbo hO hF hA3 hD3 hf3 hx o0 o1 o2 o3 HK1 HK2 hg0 HR1 hbl
            have o0 := hO4.cell_of (i := 0) rfl
            have o1 := hO4.cell_of (i := 1) rfl
            have o2 := hO4.cell_of (i := 2) rfl
            have o3 := hO4.cell_of (i := 3) rfl
            go_wp2_with fail
            generalize hbx : w3.heap.size = bx at *
            generalize w3.alloc (.cells #[.int .u64 (u kk.1), .int .u64 (u kk.2)] 56) = w4 at *
            refine (HR2 _ hbo4.f).mono ?_
            rintro e w5 ⟨rfl, hf5⟩
            have hx := hf5.alloc (.cells #[.int .u64 (u kk.1), .int .u64 (u kk.2)] 56)
            have hX5 := hX.kept hx (fun f => f)
            have g0 : (w5.alloc (.cells #[.int .u64 (u kk.1), .int .u64 (u kk.2)] 56)).cell? ⟨bx, 0, none⟩ = some (.int .u64 (u kk.1)) := hX5.cell_of rfl
            have g1 : (w5.alloc (.cells #[.int .u64 (u kk.1), .int .u64 (u kk.2)] 56)).cell? ⟨bx, 1, none⟩ = some (.int .u64 (u kk.2)) := hX5.cell_of rfl
            have HBO := Lib.hid (hbo4.kept hx)
            have HF4 := Lib.hid (hF4.trans hx)
            clear hbo4 hF4 hO4 hX hX5 hx hf5 o0 o1 o2 o3 HR2
            go_wp2_with fail
            clear g0 g1
            generalize w5.alloc (.cells #[.int .u64 (u kk.1), .int .u64 (u kk.2)] 56) = w6 at *
            go_loopw [18] (fun i wr => ∃ jj : Nat, jj ≤ k ∧ i = .int .i64 jj ∧ Both wr b lb fb gb sb seed grace g ∧ Fr none_ w wr) (fun i _ => k - (intOf i).toNat)
            case atStart => exact ⟨0, Nat.zero_le _, rfl, HBO.out, HF4.out⟩
            case round =>
              clear HBO HF4
              obtain ⟨jj, hjj, rfl, hbo, hF⟩ := hrel
              by_cases hlt2 : jj < k
              · have hd2 : decide ((jj : Int) < (k : Int)) = true := by simp; omega
                have hw1 : IntKind.i64.wrap ((jj : Int) + 1) = (jj : Int) + 1 := IntWalk.i64_in _ (by have := HKB.out; omega)
                obtain ⟨p', hp'⟩ : ∃ p', g[jj]? = some p' := ⟨_, List.getElem?_eq_getElem (by omega)⟩
                have hgn := genC_in hp'
                have HG : Calls Try.prog 72 #[.pointer (some ⟨b, 0, none⟩), .int .i64 jj] wr.drew fun e w' => e = .returned (.int .i64 p'.1) ∧ wr.drew = w' := by
                  have := rgen_any hbo.r.drew jj
                  rw [hgn.1] at this
                  exact this
                have HS : Calls Try.prog 73 #[.pointer (some ⟨b, 0, none⟩), .int .i64 jj] wr.drew fun e w' => e = .returned (.int .i64 p'.2) ∧ wr.drew = w' := by
                  have := rsince_any hbo.r.drew jj
                  rw [hgn.2] at this
                  exact this
                obtain ⟨k0, k1, k2, k3⟩ := hbo.f.head
                obtain ⟨z0, z1, _, _⟩ := hbo.f.cells hp'
                have hl1 : (jj : Int) < (g.length : Int) := by omega
                have HU := Lib.hid (show wr.drew.cell? ⟨fb, 2, none⟩ = some (.slice (some ⟨gb, 0, none⟩) g.length g.length) ∧ wr.drew.cell? ⟨fb, 3, none⟩ = some (.slice (some ⟨sb, 0, none⟩) g.length g.length) ∧ wr.drew.cell? ⟨gb, jj, none⟩ = some (.int .i64 p'.1) ∧ wr.drew.cell? ⟨sb, jj, none⟩ = some (.int .i64 p'.2) from ⟨k2, k3, z0, z1⟩)
                clear hgn
                go_wp2_with fail
                refine region_pi [2, 14] [] [0, 1, 3, 4, 5, 6, 7, 8, 9, 2, 10, 11, 12, 13, 15, 16, 17, 18, 19, 20, 21, 14, 22, 23] (fun w' => w'.cell? ⟨fb, 2, none⟩ = some (.slice (some ⟨gb, 0, none⟩) g.length g.length) ∧ w'.cell? ⟨fb, 3, none⟩ = some (.slice (some ⟨sb, 0, none⟩) g.length g.length) ∧ w'.cell? ⟨gb, jj, none⟩ = some (.int .i64 p'.1) ∧ w'.cell? ⟨sb, jj, none⟩ = some (.int .i64 p'.2)) (by as_aux_lemma => kernel_rfl) (by as_aux_lemma => kernel_rfl) (by as_aux_lemma => kernel_rfl) (by as_aux_lemma => kernel_rfl) (by as_aux_lemma => kernel_rfl) (by exact HU.out) ?_
                repeat (first
                  | (refine pi_float (v := ?_) (a' := ?_) rfl rfl rfl rfl ?_ ?_ ?_
                     rotate_left 2
                     · (intro w' hU; (try dsimp only at hU); go_simp; with_reducible rfl)
                     · (simp only [Act.put, List.setIfInBounds_toArray, List.set_cons_zero, List.set_cons_succ]; rfl))
                  | (refine pi_bound (v := ?_) (a' := ?_) rfl rfl rfl rfl ?_ ?_ ?_
                     rotate_left 2
                     · (go_simp; with_reducible rfl)
                     · (simp only [Act.put, List.setIfInBounds_toArray, List.set_cons_zero, List.set_cons_succ]; rfl))
                  | (refine pi_skip (a' := ?_) rfl rfl rfl ?_ ?_
                     rotate_left 1
                     · (simp only [Act.put, List.setIfInBounds_toArray, List.set_cons_zero, List.set_cons_succ]; rfl))
                  | (refine pi_acts rfl rfl rfl (fun K hK => ?_)
                     go_simp; try (go_wp2_with (first | (go_at_call 73; refine HS.mono ?_; rintro e w' ⟨rfl, rfl⟩) | (go_at_call 72; refine HG.mono ?_; rintro e w' ⟨rfl, rfl⟩)))
                     refine hK.out _ _ (by exact HU.out) ?_
                     clear hK K))
                refine pi_done ?_
                have HBO := Lib.hid (hbo.kept (Fr.refl none_ wr).drew)
                have HF4 := Lib.hid hF.drew
                clear hbo hF HG HS HU k0 k1 k2 k3 z0 z1
                go_wp2_with fail
                exact ⟨⟨jj + 1, by omega, by simp, HBO.out, HF4.out⟩, by simp [intOf]; omega⟩
              · have hd2 : decide ((jj : Int) < (k : Int)) = false := by simp; omega
                have HBO := Lib.hid hbo
                have HF4 := Lib.hid hF
                have hd3 : decide (jj < k) = false := decide_eq_false hlt2
                have hw1 : IntKind.i64.wrap ((j : Int) + 1) = (j : Int) + 1 := IntWalk.i64_in _ (by have := HL.out; omega)
                clear hbo hF hlt2 hjj
                go_wp2_with fail
                exact ⟨⟨j + 1, g, by omega, by simp, hgl, HBO.out, HF4.out⟩, by simp [intOf]; omega⟩
    · have hd : decide ((j : Int) < (L.length : Int)) = false := by simp; omega
      have hg1 : genC g (k : Int) = -1 := by unfold genC; rw [gat_out (.inr (by omega))]
      have hs1 : sinC g (-1 : Int) = -1 := by unfold sinC; rw [gat_out (.inl (by omega))]
      have HG : ∀ wa, RgAt wa b lb seed grace g → Calls Try.prog 72 #[.pointer (some ⟨b, 0, none⟩), .int .i64 k] wa fun e w' => e = .returned (.int .i64 (-1)) ∧ wa = w' := fun wa h => by
        have := rgen_any h k
        rw [hg1] at this
        exact this
      have HS : ∀ wa, RgAt wa b lb seed grace g → Calls Try.prog 73 #[.pointer (some ⟨b, 0, none⟩), .int .i64 (-1)] wa fun e w' => e = .returned (.int .i64 (-1)) ∧ wa = w' := fun wa h => by
        have := rsince_any h (-1)
        rw [hs1] at this
        exact this
      have hR := hbo.r
      clear hcell hbo
      go_wp2_with fail
      refine (HT _).mono ?_
      rintro e w3 ⟨rfl, hf⟩
      have hR3 := hR.kept hf (fun f => f) (fun f => f)
      go_wp2_with fail
      refine (HG _ hR3).mono ?_
      rintro e w4 ⟨rfl, rfl⟩
      go_wp2_with fail
      refine (HS _ hR3).mono ?_
      rintro e w4 ⟨rfl, rfl⟩
      go_wp2_with fail
      go_ret
      exact ⟨rfl, hF.trans hf⟩

namespace ringPlays
open Go Go.ChangeShapes Go.WideShapes Go.ChangeAt Go.RowKit
set_option linter.unusedVariables false
set_option maxRecDepth 100000 in
theorem lifted (os : Os) (started : os.Started) (H : Type) (enc : TypeId × Value → H) :
    ReturnsInHanded {} Try.checked os 20 .any (Rows.ringPlaysSpec.pre6 enc Try.prog Try.f20 Rows.ringPlaysRow.domain false) (Rows.ringPlaysSpec.post enc Try.prog Try.f20 false true false false) := by
  refine returnsInHanded_of_change (C := Try.checked) owned started (by kernel_rfl) Try.func20
    (ChangeSpec.witness6 (enc := enc) (C := Try.checked) false ⟨#[], #[.int .u64 0, .int .i64 0, .int .i64 0, .slice none 0 0], []⟩ 8 (by kernel_rfl) (by kernel_rfl) (by kernel_rfl) (by kernel_rfl)) ?_
  intro W base args ds gs before hval0 hW hcnd _
  have hval : ∀ (j : Nat) t v, Try.f20.params[j]? = some t → args[j]? = some v → Value.okWide Try.prog W .any base t v := hval0
  have hW' := hW
  obtain ⟨p, q, hA0, hV, rfl, hfz, hnd⟩ := hW
  have hA : DataW.TrodAll enc Try.prog W 0 (fun _ => true) true Try.f20.params.toList args.toList ds p := hA0
  rw [Try.params20] at hA hval
  obtain ⟨v0, vs0, d0, ds0, p0, q0, hargs, rfl, rfl, h0, r0⟩ := trodAll_cons hA
  obtain ⟨v1, vs1, d1, ds1, p1, q1, rfl, rfl, rfl, h1, r1⟩ := trodAll_cons r0
  obtain ⟨v2, vs2, d2, ds2, p2, q2, rfl, rfl, rfl, h2, r2⟩ := trodAll_cons r1
  obtain ⟨v3, vs3, d3, ds3, p3, q3, rfl, rfl, rfl, h3, r3⟩ := trodAll_cons r2
  obtain ⟨rfl, rfl, rfl⟩ := trodAll_nil r3
  obtain rfl : args = #[v0, v1, v2, v3] := by cases args; simp_all
  obtain ⟨rfl, rfl⟩ := trodVars_none hV
  have k0 := h0
  have lt0 : ∀ x ∈ p0, x.block < W.heap.size := by obtain ⟨m, hm⟩ := k0; exact DataW.trod_lt m _ _ _ hm
  have k1 := h1
  have lt1 : ∀ x ∈ p1, x.block < W.heap.size := by obtain ⟨m, hm⟩ := k1; exact DataW.trod_lt m _ _ _ hm
  have k2 := h2
  have lt2 : ∀ x ∈ p2, x.block < W.heap.size := by obtain ⟨m, hm⟩ := k2; exact DataW.trod_lt m _ _ _ hm
  have k3 := h3
  have lt3 : ∀ x ∈ p3, x.block < W.heap.size := by obtain ⟨m, hm⟩ := k3; exact DataW.trod_lt m _ _ _ hm
  obtain ⟨x0, rfl⟩ := open_word Try.underlying22 (hval 0 22 v0 rfl rfl) h0
  obtain ⟨x1, rfl, bl1, bh1⟩ := open_num Try.underlying3 (hval 1 3 v1 rfl rfl) h1
  obtain ⟨x2, rfl, bl2, bh2⟩ := open_num Try.underlying3 (hval 2 3 v2 rfl rfl) h2
  obtain ⟨x3, hr3⟩ := open_ops Try.underlying89 Try.underlying95 (by kernel_rfl) (by kernel_rfl) (by kernel_rfl) (hval 3 89 v3 rfl rfl) h3
  clear hA0 hval0
  refine (walk_RingPlays W x0 x1 bl1 bh1 x2 bl2 bh2 v3 x3 hr3).mono fun e W' ⟨he, fr⟩ => ?_
  subst he
  have bel := fr.below
  exact ⟨_, rfl, _, _, _, [], _, [], hW', trodAll_mk1 (shut_bool Try.underlying4 _), (trodAll_cons_mk (Below.trod laid (by kernel_rfl) (of_decide_eq_true (by kernel_rfl)) k0 bel lt0) (trodAll_cons_mk (Below.trod laid (by kernel_rfl) (of_decide_eq_true (by kernel_rfl)) k1 bel lt1) (trodAll_cons_mk (Below.trod laid (by kernel_rfl) (of_decide_eq_true (by kernel_rfl)) k2 bel lt2) (trodAll_cons_mk (Below.trod laid (by kernel_rfl) (of_decide_eq_true (by kernel_rfl)) k3 bel lt3) trodAll_mk0)))), rfl, bel.frame _, fun h => by cases h⟩

theorem inPlace : Try.prog.inPlace 20 = ["sync/atomic.AddInt64"] := by kernel_rfl
theorem closed : joinedFacts Try.prog 20 Try.f20 Rows.ringPlaysSpec Rows.ringPlaysRow = true := by
  unfold joinedFacts
  repeat' (with_reducible refine and_mk ?_ ?_)
  all_goals first
    | with_reducible exact enters
    | with_reducible exact laid
    | with_reducible exact rowed
    | with_reducible exact noStops
    | with_reducible exact noKnobs
    | with_reducible exact heard
    | (rw [lifts]; as_aux_lemma => kernel_rfl)
    | (rw [makes]; as_aux_lemma => kernel_rfl)
    | (rw [plains]; as_aux_lemma => kernel_rfl)
    | (rw [inPlace]; as_aux_lemma => kernel_rfl)
    | as_aux_lemma => kernel_rfl
theorem named : Try.prog.funcNamed Rows.ringPlaysRow.func = some 20 := by kernel_rfl
theorem isOne : (Try.f20).isInstance Try.prog Rows.ringPlaysRow.origin Rows.ringPlaysRow.targs := of_decide_eq_true (by kernel_rfl)
theorem wraps : (Try.f20).isWrapper Try.prog Rows.ringPlaysRow.wrapper Rows.ringPlaysRow.mainSum := by unfold Func.isWrapper; first | (rw [if_pos (by decide +kernel)]; kernel_rfl) | (rw [if_neg (by decide +kernel)]; exact ⟨rfl, rfl⟩)
theorem over : Rows.ringPlaysRow.holds Try.pinned (OpenSpec.ofChange Rows.ringPlaysSpec) :=
  OpenClaim.holds_of_wide 20 Try.f20 rfl rfl rfl rfl rfl rfl rfl ⟨rfl, rfl, rfl, rfl, rfl⟩ rfl rfl rfl rfl rfl named Try.func20 closed
    isOne wraps
    (fun os started H enc _ => lifted os started H enc)

/-- THE STATEMENT. -/
theorem proved : Rows.RingPlaysSaid := over
#print axioms proved
end ringPlays
end Go.Proofs.Ytandenkoejbloaa
