/- Operations that make bytes: of a string, of parts; at the operation. Plain: over any program. -/
import Derived.Test.YtandenkoejbloaaStr
namespace Go.Proofs.Ytandenkoejbloaa
open Go Go.RowKit
section
variable {P : Program} {w : World}

theorem run_bytes_b {src dst e : TypeId} (hs : P.underlying src = some .string) (hd : P.underlying dst = some (.slice e)) (he : P.underlying e = some (.int .u8)) (l : List UInt8) (hl : l.length ≤ maxLen) (base : Nat) (hb : base ≤ w.heap.size) :
    ∃ v w', (convert src dst (.string (bs l))).run P w = .ok v w' ∧ Own w' base e v (l.map bv) ∧ Fr none_ w w' ∧ (∀ k, v.ownBlock = some k → w.heap.size ≤ k) := by
  have hge := grownCap_ge w l.length 0 e
  have hcm := grownCap_le_maxLen w l.length 0 e hl
  have hr := run_bytes_of_string (P := P) w src dst e (bs l) hs hd he
  rw [bs_size] at hr
  have hrow : bytesRow (bs l) (grownCap w l.length 0 e) = (l.map bv ++ List.replicate (grownCap w l.length 0 e - l.length) (Value.int .u8 0)).toArray := by
    unfold bytesRow
    rw [bs_size]
    apply Array.ext'
    simp [bs]
    exact fun _ _ => rfl
  rw [hrow] at hr
  refine ⟨_, _, hr, .inr ⟨w.heap.size, 0, grownCap w l.length 0 e, _, _, by rw [List.length_map], hb, heap_alloc_new w.drew _, ?_, by rw [List.length_map]; exact hge, hcm, by simp; omega, ?_⟩, (Fr.refl none_ w).drew.alloc _, fun k hk => ?_⟩
  · intro j hj
    simp only [Bool.and_eq_false_iff, decide_eq_false_iff_not]
    left; omega
  · rw [List.drop_zero, List.length_map]
    show List.take l.length (l.map bv ++ _) = _
    have : l.length = (l.map bv).length := by simp
    rw [this]; exact List.take_left
  · simp [Value.ownBlock] at hk; omega

/-- '[]byte(s)' at the operation. -/
theorem wp_bytes {o : Oper} {a : Act} {K : Act → World → Prop} {Q : Exit → Act → World → Prop} (x : Operand) (src dst e : TypeId) (hop : o.op = Op.convert src dst x)
    (hs : P.underlying src = some .string) (hd : P.underlying dst = some (.slice e)) (he : P.underlying e = some (.int .u8)) (l : List UInt8) (hl : l.length ≤ maxLen) (hx : a.eval x = .string (bs l)) (base : Nat) (hb : base ≤ w.heap.size)
    (hK : ∀ v' w', Own w' base e v' (l.map bv) → Fr none_ w w' → (∀ k, v'.ownBlock = some k → w.heap.size ≤ k) → K (a.put o.dst v') w') : o.wp P a w K Q := by
  obtain ⟨v, w', hr, h1, h2, h3⟩ := run_bytes_b (w := w) hs hd he l hl base hb
  unfold Oper.wp
  simp only [execOp, hop, hx, Sem.run_bind, hr, Result.andThen]
  exact hK v w' h1 h2 h3

/-- Bytes of a constant: what parts made is marked. -/
theorem run_convert_made {t e : TypeId} (ht : P.underlying t = some (.slice e)) (he : P.underlying e = some (.int .u8)) (C : Array Value) (n c : Nat) :
    (convert t t (.slice (some ⟨w.heap.size, 0, none⟩) n c)).run P (w.alloc (.cells C e)) = .ok (.slice (some ⟨w.heap.size, 0, none⟩) n c) (w.alloc (.cells C e (C.size, C.size + 1))) := by
  have hsh : (w.alloc (.cells C e)).shape? w.heap.size = some (e, C.size) := by
    have : (w.alloc (.cells C e)).heap[w.heap.size]? = some (.cells C e) := heap_alloc_new w _
    unfold World.shape?
    rw [this]
  have hfr : (w.alloc (.cells C e)).freeze ⟨w.heap.size, C.size, none⟩ 1 = w.alloc (.cells C e (C.size, C.size + 1)) := by
    have hm : ∀ (a : Array Obj) (x : Obj) (f : Obj → Obj), (a.push x).modify a.size f = a.push (f x) := by
      intro a x f
      apply Array.ext
      · simp
      · intro i h1 h2
        simp only [Array.getElem_modify, Array.getElem_push]
        by_cases h : a.size = i
        · subst h
          simp
        · have hi : i < a.size := by simp at h1; omega
          simp [h, hi]
    unfold World.freeze
    rw [if_neg (by decide)]
    show ({ w.alloc (.cells C e) with heap := (w.heap.push (.cells C e)).modify w.heap.size _ } : World) = _
    rw [hm]
    rfl
  simp [convert, run_underlying ht, run_underlying he, markStringish, hsh]
  exact hfr
theorem rd_made_fz (w : World) (xs : List Value) (e : TypeId) (fz : Nat × Nat) (h : xs.length ≤ maxLen) : Rd (w.alloc (.cells xs.toArray e fz)) (.slice (some ⟨w.heap.size, 0, none⟩) xs.length xs.length) xs :=
  ⟨_, _, rfl, Nat.le_refl _, h, fun j x hj => ⟨w.heap.size, 0, rfl, by simp, by
    have hb : (w.alloc (.cells xs.toArray e fz)).heap[w.heap.size]? = some (.cells xs.toArray e fz) := heap_alloc_new w _
    simp only [World.cell?, hb]; simpa using hj⟩⟩
end
end Go.Proofs.Ytandenkoejbloaa
