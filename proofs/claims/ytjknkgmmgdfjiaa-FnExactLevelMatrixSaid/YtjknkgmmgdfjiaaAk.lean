/-
  append onto an own row: in the old block, or in a new one, and then nothing else is written.
-/
import Derived.Test.YtjknkgmmgdfjiaaMa
namespace Go.Proofs.Ytjknkgmmgdfjiaa
open Go.RowKit
set_option linter.unusedVariables false
set_option linter.unusedSimpArgs false

theorem run_append_keep {P : Program} (w : World) (base : Nat) (t ty e : TypeId) (i : TypeInfo) (z : Value) (ht : P.underlying t = some (.slice e)) (hi : P.info? e = some i) (hz : i.zero = some z)
    (hzs : z.cells.size = i.size)
    (v : Value) (n : Nat) (xs : List Value) (hown : w.ownsRow base e i.size v n xs) (hn0 : 0 < n)
    (a : Addr) (m c : Nat) (news : List Value) (hl : news.length = m * i.size) (hnews : ∀ j u, news[j]? = some u → w.cell? (a.add j) = some u) (h1 : ∀ u ∈ news, u.oneCell' = true)
    (h63 : n + m ≤ maxLen) (hbytes : (n + m) * i.bytes ≤ 140737488355328) (hbase : base ≤ w.heap.size) :
    ∃ v' w', (Builtin.append_ #[t, t] ty #[v, .slice (some a) m c]).run P w = .ok v' w' ∧ w'.ownsRow base e i.size v' (n + m) (xs ++ news) ∧ w.grownBy w' v.ownBlock ∧
      (v'.ownBlock = v.ownBlock ∨ (v'.ownBlock = some w.heap.size ∧ w.grownBy w' none)) := by
  have hlen : (xs ++ news).length = (n + m) * i.size := by rw [List.length_append, hown.1, hl, Nat.add_mul]
  rcases hown.2 with ⟨rfl, h0⟩ | ⟨g, cap, cur, rfl, hbg, hg, hnc, hcm, hcs, htake⟩
  · omega
  · by_cases hroom : n + m ≤ cap
    · have hfit : n * i.size + news.length ≤ cur.size := by rw [hl, hcs, ← Nat.add_mul]; exact Nat.mul_le_mul_right _ hroom
      have hr := run_append_room (P := P) w t ty e i ht hi g n cap cur hg a m c news hl hnews h1 hroom hfit
      refine ⟨_, _, hr, ⟨hlen, .inr ⟨g, cap, _, rfl, hbg, setRow_heap w g cur _ e _ hg, hroom, hcm, ?_, ?_⟩⟩, ⟨rfl, rfl, rfl, by simp, fun k _ hk => setRow_other w g k _ (fun e => hk (by simp [Value.ownBlock, e]))⟩, Or.inl rfl⟩
      · simp only [List.size_toArray, List.length_append, List.length_take, List.length_drop, Array.length_toList]
        omega
      · rw [htake, ← hlen]
        exact List.take_left
    · have holds : ∀ j u, xs[j]? = some u → w.cell? ((⟨g, 0, none⟩ : Addr).add j) = some u := hown.cells (g := g) rfl
      have hr := run_append_grow (P := P) w t ty e i z ht hi hz ⟨g, 0, none⟩ n cap xs hown.1 holds a m c news hl hnews (by omega) (by simp only [maxLen] at h63; omega) (growslice_fits (by omega) hbytes)
      have hge := grownCap_ge w (n + m) cap e
      have hcm2 : grownCap w (n + m) cap e ≤ maxLen := grownCap_le_maxLen w (n + m) cap e h63
      refine ⟨_, _, hr, ⟨hlen, .inr ⟨w.heap.size, _, _, rfl, hbase, heap_alloc_new w.drew _, hge, hcm2, ?_, ?_⟩⟩, ⟨rfl, rfl, rfl, by simp, fun k hk _ => heap_alloc_old w.drew _ hk⟩, Or.inr ⟨rfl, ⟨rfl, rfl, rfl, by simp, fun k hk _ => heap_alloc_old w.drew _ hk⟩⟩⟩
      · simp only [Array.size_append, List.size_toArray, size_zeroCells, hzs, hown.1, hl, ← Nat.add_mul]
        congr 1
        omega
      · simp only [Array.toList_append, List.append_assoc]
        rw [← List.append_assoc, ← hlen]
        exact List.take_left
/-- append(v, x) of one matrix: in the old block, or in a new one, and then nothing else is written. -/
theorem app_MLk (w : World) {ops : Array Oper} {rest : List Oper} {o : Oper} {a : Act} {Q : Exit → Act → World → Prop} (hgd : o.guard = none) (s x : Operand)
    (ho : o.op = .call { callee := .builtin .append, args := #[s, x], argTypes := #[39, 39] })
    (lo : Nat) (v : Value) (ms : List M4) (x0 x1 x2 x3 : Int) (B : Nat) (hs : a.eval s = v) (hx : a.eval x = .slice (some ⟨B, 0, none⟩) 1 1)
    (hown : ML w lo v ms) (hn0 : 0 < ms.length) (hB0 : w.cell? ⟨B, 0, none⟩ = some (.int .i64 x0)) (hB1 : w.cell? ⟨B, 1, none⟩ = some (.int .i64 x1)) (hB2 : w.cell? ⟨B, 2, none⟩ = some (.int .i64 x2)) (hB3 : w.cell? ⟨B, 3, none⟩ = some (.int .i64 x3)) (hlen : ms.length ≤ 100000000) (hlo : lo ≤ w.heap.size)
    (h : ∀ g cap w', ML w' lo (.slice (some ⟨g, 0, none⟩) (ms.length + 1) cap) (ms ++ [(x0, x1, x2, x3)]) → w.grownBy w' v.ownBlock → (v.ownBlock = some g ∨ (g = w.heap.size ∧ w.grownBy w' none)) → g < w'.heap.size →
      wpList Try.prog ops Q rest (a.put o.dst (.slice (some ⟨g, 0, none⟩) (ms.length + 1) cap)) w') : wpList Try.prog ops Q (o :: rest) a w := by
  obtain ⟨i0, hi, hz0, hz1, hz2⟩ := info_parts Try.infoMatrix
  have hown2 : w.ownsRow lo 30 i0.size v ms.length ((fl4 ms).map (Value.int .i64)) := by rw [hz1]; exact hown
  have hnw : ∀ j u, ([x0, x1, x2, x3].map (Value.int .i64))[j]? = some u → w.cell? ((⟨B, 0, none⟩ : Addr).add j) = some u := by
    intro j u hu
    match j with
    | 0 => simp at hu; subst hu; simpa [Addr.add] using hB0
    | 1 => simp at hu; subst hu; simpa [Addr.add] using hB1
    | 2 => simp at hu; subst hu; simpa [Addr.add] using hB2
    | 3 => simp at hu; subst hu; simpa [Addr.add] using hB3
    | j + 4 => simp at hu
  refine wpList_plain hgd fun K hK => ?_
  obtain ⟨v', w', hr, h2, h3, h4⟩ := run_append_keep (P := Try.prog) w lo 39 o.type 30 i0 _ Try.underlying39 hi hz0 (by rw [hz1]; rfl) v ms.length _ hown2 hn0 ⟨B, 0, none⟩ 1 1 ([x0, x1, x2, x3].map (Value.int .i64)) (by rw [hz1]; rfl) hnw (by simp [Value.oneCell']) (by unfold maxLen; omega) (by rw [hz2]; omega) hlo
  · obtain ⟨g, cap, rfl, _, hlt⟩ := h2.form (by omega)
    have h5 := h g cap w' (by
      unfold ML MatrixL
      rw [List.length_append, fl4_app, List.map_append, ← hz1]
      exact h2) h3 (by
      rcases h4 with h4 | ⟨h4, h6⟩
      · exact .inl (by rw [← h4]; rfl)
      · exact .inr ⟨by simpa [Value.ownBlock] using h4, h6⟩) hlt
    unfold Oper.wp execOp
    simp only [ho, resolve, invoke, builtin, Sem.run_bind, Sem.run_pure, Result.andThen_ok, List.map_toArray, List.map_cons, List.map_nil, hs, hx, hr]
    exact hK _ _ h5
end Go.Proofs.Ytjknkgmmgdfjiaa
