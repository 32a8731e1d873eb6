/- 'append' onto a slice of the call's own, from whatever source: one law for the walk. Plain: over any program. -/
import Derived.Test.YtandenkoejbloaaMem
import Derived.Deep.Upon
import Derived.IntWalk
namespace Go.Proofs.Ytandenkoejbloaa
open Go Go.RowKit

theorem heap_setCells_blk {g : Nat} {e : TypeId} {fz : Nat × Nat} : ∀ (vs : List Value) (o : Nat) (w : World) (cur : Array Value), w.heap[g]? = some (.cells cur e fz) →
    ∃ cur', (w.setCells g o vs).heap[g]? = some (.cells cur' e fz) ∧ cur'.size = cur.size
  | [], _, _, cur, h => ⟨cur, h, rfl⟩
  | v :: vs, o, w, cur, h => by
    have h1 : (w.setCell ⟨g, o, none⟩ v).heap[g]? = some (.cells (cur.setIfInBounds o v) e fz) := by
      simp [World.setCell, Array.getElem?_modify, h]
    obtain ⟨cur', h2, h3⟩ := heap_setCells_blk vs (o + 1) _ _ h1
    exact ⟨cur', h2, by rw [h3]; simp⟩

section
variable {P : Program} {w : World}

theorem src_of_rd {tx e' : TypeId} {v : Value} {vs : List Value} (hk : P.underlying tx = some (.slice e')) (h : Rd w v vs) (h1 : ∀ x ∈ vs, x.oneCell' = true) : Src P 1 tx v vs.length vs w := by
  obtain ⟨ao, cap, rfl, _, _, hc⟩ := h
  cases ao with
  | none =>
    cases vs with
    | nil => exact Src.ofNil w hk _
    | cons x r => obtain ⟨_, _, h, _⟩ := hc 0 x rfl; cases h
  | some a =>
    refine Src.ofSlice w hk a _ _ _ (by simp) (fun j x hj => ?_) h1
    obtain ⟨b, o, e1, _, e2⟩ := hc j x hj
    cases e1
    rw [Addr.add_lit]
    exact e2

/-- A slice literal that has just been made. -/
theorem rd_made (w : World) (xs : List Value) (e : TypeId) (h : xs.length ≤ maxLen) : Rd (w.alloc (.cells xs.toArray e)) (.slice (some ⟨w.heap.size, 0, none⟩) xs.length xs.length) xs :=
  ⟨_, _, rfl, Nat.le_refl _, h, fun j x hj => ⟨w.heap.size, 0, rfl, by simp, by
    have hb : (w.alloc (.cells xs.toArray e)).heap[w.heap.size]? = some (.cells xs.toArray e (0, 0)) := heap_alloc_new w _
    simp only [World.cell?, hb]; simpa using hj⟩⟩
theorem own_made (w : World) (xs : List Value) (e : TypeId) (h : xs.length ≤ maxLen) (base : Nat) (hb : base ≤ w.heap.size) : Own (w.alloc (.cells xs.toArray e)) base e (.slice (some ⟨w.heap.size, 0, none⟩) xs.length xs.length) xs :=
  .inr ⟨w.heap.size, 0, xs.length, xs.toArray, (0, 0), rfl, hb, heap_alloc_new w _, thawed_0 _, Nat.le_refl _, h, by simp, by simp⟩

/-- WHAT AN append COMES TO, room or none, whatever is appended. -/
structure Appends (P : Program) (w : World) (t tx ty e : TypeId) (y : Value) (m : Nat) (news : List Value) (i : TypeInfo) (z : Value) : Prop where
  len : news.length = m
  nothing : m = 0 → (Builtin.append_ #[t, tx] ty #[.slice none 0 0, y]).run P w = .ok (.slice none 0 0) w
  room : ∀ b off sLen sCap, sLen + m ≤ sCap → (∀ j, j < news.length → (w.cell? ⟨b, off + sLen + j, none⟩).isSome = true) → (∀ j, j < news.length → w.frozen? ⟨b, off + sLen + j, none⟩ = false) →
    (Builtin.append_ #[t, tx] ty #[.slice (some ⟨b, off, none⟩) sLen sCap, y]).run P w = .ok (.slice (some ⟨b, off, none⟩) (sLen + m) sCap) (w.setCells b (off + sLen) news)
  grow : ∀ base sLen sCap (olds : List Value), (Builtin.firstCells 1 sLen (.slice base sLen sCap)).run P w.drew = .ok olds.toArray w.drew → sCap < sLen + m → ((sLen + m : Nat) : Int) ≤ 9223372036854775807 →
    Builtin.nextslicecap (sLen + m) sCap * i.bytes ≤ 281474976710656 →
    (Builtin.append_ #[t, tx] ty #[.slice base sLen sCap, y]).run P w = .ok (.slice (some ⟨w.heap.size, 0, none⟩) (sLen + m) (grownCap w (sLen + m) sCap e))
        (w.drew.alloc (.cells ((olds ++ news).toArray ++ Builtin.zeroCells z.cells (grownCap w (sLen + m) sCap e - (sLen + m))) e))

theorem appends_src (t tx ty e : TypeId) (i : TypeInfo) (z : Value) (h1 : P.underlying t = some (.slice e)) (h2 : P.info? e = some i) (h3 : i.zero = some z) (h4 : i.size = 1) (y : Value) (m : Nat) (news : List Value) (hsrc : Src P 1 tx y m news w) :
    Appends P w t tx ty e y m news i z := by
  have hnl : news.length = m := by have := hsrc.newsLen; omega
  refine ⟨hnl, fun hm => ?_, fun b off sLen sCap hr hc hf => ?_, fun base sLen sCap olds ho hg h63 hfit => ?_⟩
  · subst hm
    obtain rfl : news = [] := List.eq_nil_of_length_eq_zero hnl
    exact run_append_nothing w t tx ty e i h1 h2 none 0 0 (Nat.le_refl _) y (by rw [h4]; exact hsrc)
  · have := run_append_room_src (P := P) w t tx ty e i h1 h2 b off sLen sCap y m news (by rw [h4]; exact hsrc) hr (by simpa [h4] using hc) (by simpa [h4] using hf)
    simpa [h4] using this
  · exact run_append_grow_src (P := P) w t tx ty e i z h1 h2 h3 base sLen sCap olds (by rw [h4]; exact ho) y m news (by rw [h4]; exact hsrc) hg h63 hfit

theorem zeroCells_one (z : Value) (hc : z.cells = #[z]) (n : Nat) : Builtin.zeroCells z.cells n = (List.replicate n z).toArray := by
  unfold Builtin.zeroCells
  rw [hc]
  apply Array.ext
  · simp
  · intro i h1 h2; simp [Nat.mod_one]

/-- 'append(xs, make([]T, n)...)'. -/
theorem appends_zeros (t tx ty e : TypeId) (k : IntKind) (i : TypeInfo) (z : Value) (h1 : P.underlying t = some (.slice e)) (hx : P.underlying tx = some (.int k)) (h2 : P.info? e = some i) (h3 : i.zero = some z) (h4 : i.size = 1) (hc : z.cells = #[z]) (ho : z.oneCell' = true) (yk : IntKind) (mi : Int) (m : Nat) (hmi : mi = (m : Int))
    (hb : (m : Int) * (i.bytes : Int) ≤ 281474976710656) (hm : m ≤ 9223372036854775807) : Appends P w t tx ty e (.int yk mi) m (List.replicate m z) i z := by
  subst hmi
  have hw : IntKind.i64.wrap (m : Int) = m := IntWalk.i64_in _ (by omega)
  have hw0 : IntKind.i64.wrap 0 = 0 := by decide
  have hneg : ¬ ((m : Int) < 0) := by omega
  have hbig : ¬ (281474976710656 < (m : Int) * (i.bytes : Int)) := by omega
  have hzc := zeroCells_one z hc m
  refine ⟨by simp, fun hm0 => ?_, fun b off sLen sCap hr hc hf => ?_, fun base sLen sCap olds hold hg h63 hfit => ?_⟩
  · subst hm0
    simp [Builtin.append_, run_underlying h1, run_underlying hx, sizeOf, typeInfo, h2, h3, h4, asInt, asIntOf, hw0]
  · have hst := run_storeCells_cells (P := P) b (off + sLen) (List.replicate m z) 0 w (by simpa using hc) (by simpa using hf) (fun v hv => by rw [List.eq_of_mem_replicate hv]; exact ho)
    simp only [Nat.add_zero] at hst
    by_cases hm0 : m = 0
    · subst hm0
      simp at hr hst
      simp [Builtin.append_, run_underlying h1, run_underlying hx, sizeOf, typeInfo, zeroValue, h2, h3, h4, asInt, asIntOf, hw0, hr, Addr.add_lit, World.setCells, storeCells]
    · simp [Builtin.append_, run_underlying h1, run_underlying hx, sizeOf, typeInfo, zeroValue, h2, h3, h4, asInt, asIntOf, hw, hneg, hbig, hm0, hr, hzc, Addr.add_lit, hst]
  · have hn : ¬ (sLen + m ≤ sCap) := by omega
    have h63' : ¬ (9223372036854775807 < ((sLen : Int) + (m : Int))) := by omega
    have h48' : ¬ (281474976710656 < Builtin.nextslicecap (sLen + m) sCap * i.bytes) := by omega
    by_cases hm0 : m = 0
    · subst hm0
      simp only [Nat.add_zero] at hn h48' h63'
      have h63'' : ¬ (9223372036854775807 < (sLen : Int)) := by omega
      simp [Builtin.append_, run_underlying h1, run_underlying hx, sizeOf, typeInfo, zeroValue, h2, h3, h4, asInt, asIntOf, hw0, hn, h63'', h48', Question.forced, hold, newRow, grownCap]
    · simp [Builtin.append_, run_underlying h1, run_underlying hx, sizeOf, typeInfo, zeroValue, h2, h3, h4, asInt, asIntOf, hw, hneg, hbig, hm0, hn, h63', h48', hzc, Question.forced, hold, newRow, grownCap]
      congr 2
      apply Array.ext'
      simp [List.append_assoc]

theorem run_append_b (t tx ty : TypeId) (base : Nat) (e : TypeId) (i : TypeInfo) (z : Value) (bytes : Nat) (h5 : i.bytes = bytes) (h6 : z.cells.size = 1)
    (v : Value) (vs : List Value) (hown : Own w base e v vs) (y : Value) (m : Nat) (news : List Value) (hap : Appends P w t tx ty e y m news i z) (b1 : vs.length + m ≤ maxLen) (b2 : (vs.length + m) * bytes ≤ 140737488355328) (hbase : base ≤ w.heap.size) :
    ∃ v' w', (Builtin.append_ #[t, tx] ty #[v, y]).run P w = .ok v' w' ∧ Own w' base e v' (vs ++ news) ∧ Fr (fun k => v.ownBlock = some k) w w' ∧ (∀ k, v'.ownBlock = some k → v.ownBlock = some k ∨ w.heap.size ≤ k) := by
  have hnl : news.length = m := hap.len
  subst h5
  have hsmall : vs.length + m ≤ 9223372036854775807 := by simp only [maxLen] at b1; omega
  -- a new row
  have grow : ∀ (ao : Option Addr) (cap : Nat), v = .slice ao vs.length cap → (Builtin.firstCells 1 vs.length (.slice ao vs.length cap)).run P w.drew = .ok vs.toArray w.drew → cap < vs.length + m →
      ∃ v' w', (Builtin.append_ #[t, tx] ty #[v, y]).run P w = .ok v' w' ∧ Own w' base e v' (vs ++ news) ∧ Fr (fun k => v.ownBlock = some k) w w' ∧ (∀ k, v'.ownBlock = some k → v.ownBlock = some k ∨ w.heap.size ≤ k) := by
    intro ao cap hv hold hg
    have hr := hap.grow ao vs.length cap vs hold hg (by omega) (growslice_fits hg b2)
    have hge := grownCap_ge w (vs.length + m) cap e
    have hcm : grownCap w (vs.length + m) cap e ≤ maxLen := grownCap_le_maxLen w (vs.length + m) cap e b1
    refine ⟨_, _, by rw [hv]; exact hr, .inr ⟨w.heap.size, 0, grownCap w (vs.length + m) cap e, _, (0, 0), ?_, hbase, heap_alloc_new w.drew _, thawed_0 _, by simp; omega, hcm, ?_, ?_⟩, ((Fr.refl _ w).drew.alloc _), fun k hk => .inr ?_⟩
    · rw [List.length_append, hnl]
    · simp only [Array.size_append, List.size_toArray, List.length_append, size_zeroCells, h6, hnl]; omega
    · simp only [Array.toList_append, List.drop_zero]; exact List.take_left
    · simp [Value.ownBlock] at hk; omega
  rcases hown with ⟨rfl, rfl⟩ | ⟨g, off, cap, cur, fz, rfl, hb, hg, hth, hle, hcm, hsz, htk⟩
  · by_cases hm : m = 0
    · obtain rfl : news = [] := List.eq_nil_of_length_eq_zero (by omega)
      exact ⟨_, _, hap.nothing hm, .inl ⟨rfl, rfl⟩, Fr.refl _ _, fun k hk => .inl hk⟩
    · exact grow none 0 rfl (by simpa using run_firstCells_none (P := P) w.drew 1 0 0 0) (by simp; omega)
  · have hown : Own w base e (.slice (some ⟨g, off, none⟩) vs.length cap) vs := .inr ⟨g, off, cap, cur, fz, rfl, hb, hg, hth, hle, hcm, hsz, htk⟩
    have hcur : ∀ j x, vs[j]? = some x → cur[off + j]? = some x := by
      intro j x hj
      have hjl : j < vs.length := (List.getElem?_eq_some_iff.1 hj).1
      rw [← htk] at hj
      rw [List.getElem?_take_of_lt hjl, List.getElem?_drop] at hj
      simpa using hj
    have hcell : ∀ j x, vs[j]? = some x → w.cell? ⟨g, off + j, none⟩ = some x := fun j x hj => by simp [World.cell?, hg, hcur j x hj]
    by_cases hroom : vs.length + m ≤ cap
    · have hthere : ∀ j, j < news.length → (w.cell? ⟨g, off + vs.length + j, none⟩).isSome = true := fun j hj => by
        have : off + vs.length + j < cur.size := by omega
        simp [World.cell?, hg, this]
      have hr := hap.room g off vs.length cap hroom hthere (fun j hj => by simp only [World.frozen?, hg]; exact hth _ (by omega))
      obtain ⟨cur', hg', hsz'⟩ := heap_setCells_blk (g := g) news (off + vs.length) w cur hg
      refine ⟨_, _, hr, .inr ⟨g, off, cap, cur', fz, ?_, hb, hg', by rw [hsz']; exact hth, by simp; omega, hcm, by omega, ?_⟩, Fr.setCells (Fr.refl (fun k => (Value.slice (some ⟨g, off, none⟩) vs.length cap).ownBlock = some k) w) (fun _ => rfl) news, fun k hk => .inl hk⟩
      · rw [List.length_append, hnl]
      · refine List.ext_getElem? fun j => ?_
        have hc' : ∀ k, (w.setCells g (off + vs.length) news).cell? ⟨g, k, none⟩ = cur'[k]? := fun k => by simp [World.cell?, hg']
        by_cases hj : j < (vs ++ news).length
        · rw [List.getElem?_take_of_lt hj, List.getElem?_drop]
          have e1 : cur'.toList[off + j]? = cur'[off + j]? := by simp
          rw [e1, ← hc']
          by_cases hjv : j < vs.length
          · rw [World.cell?_setCells_out _ _ _ _ _ (fun _ _ => .inl (by simp; omega)), List.getElem?_append_left hjv, List.getElem?_eq_getElem hjv]
            exact hcell j _ (List.getElem?_eq_getElem hjv)
          · have hjn : j - vs.length < news.length := by simp at hj; omega
            have := World.cell?_setCells_in g news (off + vs.length) w hthere (j - vs.length) hjn
            rw [show off + vs.length + (j - vs.length) = off + j from by omega] at this
            rw [this, List.getElem?_append_right (by omega), List.getElem?_eq_getElem hjn]
        · rw [List.getElem?_eq_none (by simp at hj ⊢; omega), List.getElem?_eq_none (by omega)]
    · exact grow (some ⟨g, off, none⟩) cap rfl (run_firstCells_some w.drew 1 vs.length ⟨g, off, none⟩ vs.length cap vs (by simp) (fun j x hj => by rw [Addr.add_lit]; exact hcell j x hj)) (by omega)
end

/-- AT THE OPERATION. -/
theorem wp_append_b {P : Program} (w : World) {o : Oper} {a : Act} {K : Act → World → Prop} {Q : Exit → Act → World → Prop} (s x : Operand) (t tx : TypeId)
    (hop : o.op = Op.call { callee := Callee.builtin Builtin.append, args := #[s, x], argTypes := #[t, tx] })
    (base : Nat) (e : TypeId) (i : TypeInfo) (z : Value) (bytes : Nat) (h5 : i.bytes = bytes) (h6 : z.cells.size = 1)
    (v : Value) (vs : List Value) (hs : a.eval s = v) (hown : Own w base e v vs) (y : Value) (hx : a.eval x = y) (m : Nat) (news : List Value) (hap : ∀ ty, Appends P w t tx ty e y m news i z) (b1 : vs.length + m ≤ maxLen) (b2 : (vs.length + m) * bytes ≤ 140737488355328) (hbase : base ≤ w.heap.size)
    (hK : ∀ v' w', Own w' base e v' (vs ++ news) → Fr (fun k => v.ownBlock = some k) w w' → (∀ k, v'.ownBlock = some k → v.ownBlock = some k ∨ w.heap.size ≤ k) → K (a.put o.dst v') w') :
    o.wp P a w K Q := by
  obtain ⟨v', w', hrun, r1, r2, r3⟩ := run_append_b (P := P) (w := w) t tx o.type base e i z bytes h5 h6 v vs hown y m news (hap _) b1 b2 hbase
  unfold Oper.wp
  simp [execOp, hop, resolve, invoke, builtin, hs, hx, hrun, Result.andThen]
  exact hK v' w' r1 r2 r3

theorem wpList_append_z {P : Program} (w : World) {ops : Array Oper} {rest : List Oper} {o : Oper} {a : Act} {Q : Exit → Act → World → Prop} (hg : o.guard = none) (s x : Operand) (t tx : TypeId)
    (hop : o.op = Op.call { callee := Callee.builtin Builtin.append, args := #[s, x], argTypes := #[t, tx] })
    (base : Nat) (e : TypeId) (i : TypeInfo) (z : Value) (bytes : Nat) (h5 : i.bytes = bytes) (h6 : z.cells.size = 1)
    (v : Value) (vs : List Value) (hs : a.eval s = v) (hown : Own w base e v vs) (y : Value) (hx : a.eval x = y) (m : Nat) (news : List Value) (hap : ∀ ty, Appends P w t tx ty e y m news i z) (b1 : vs.length + m ≤ maxLen) (b2 : (vs.length + m) * bytes ≤ 140737488355328) (hbase : base ≤ w.heap.size)
    (hK : ∀ v' w', Own w' base e v' (vs ++ news) → Fr (fun k => v.ownBlock = some k) w w' → (∀ k, v'.ownBlock = some k → v.ownBlock = some k ∨ w.heap.size ≤ k) → wpList P ops Q rest (a.put o.dst v') w') :
    wpList P ops Q (o :: rest) a w :=
  wpList_plain hg fun _ hK' => wp_append_b w s x t tx hop base e i z bytes h5 h6 v vs hs hown y hx m news hap b1 b2 hbase fun v' w' r1 r2 r3 => hK' _ _ (hK v' w' r1 r2 r3)

theorem wpList_append_b {P : Program} (w : World) {ops : Array Oper} {rest : List Oper} {o : Oper} {a : Act} {Q : Exit → Act → World → Prop} (hg : o.guard = none) (s x : Operand) (t tx : TypeId)
    (hop : o.op = Op.call { callee := Callee.builtin Builtin.append, args := #[s, x], argTypes := #[t, tx] })
    (base : Nat) (e : TypeId) (i : TypeInfo) (z : Value) (bytes : Nat) (h1 : P.underlying t = some (.slice e)) (h2 : P.info? e = some i) (h3 : i.zero = some z) (h4 : i.size = 1) (h5 : i.bytes = bytes) (h6 : z.cells.size = 1)
    (v : Value) (vs : List Value) (hs : a.eval s = v) (hown : Own w base e v vs) (y : Value) (hx : a.eval x = y) (m : Nat) (news : List Value) (hsrc : Src P 1 tx y m news w) (b1 : vs.length + m ≤ maxLen) (b2 : (vs.length + m) * bytes ≤ 140737488355328) (hbase : base ≤ w.heap.size)
    (hK : ∀ v' w', Own w' base e v' (vs ++ news) → Fr (fun k => v.ownBlock = some k) w w' → (∀ k, v'.ownBlock = some k → v.ownBlock = some k ∨ w.heap.size ≤ k) → wpList P ops Q rest (a.put o.dst v') w') :
    wpList P ops Q (o :: rest) a w :=
  wpList_append_z w hg s x t tx hop base e i z bytes h5 h6 v vs hs hown y hx m news (fun _ => appends_src t tx _ e i z h1 h2 h3 h4 y m news hsrc) b1 b2 hbase hK
end Go.Proofs.Ytandenkoejbloaa
