/- Plain: commands read back from their texts. -/
import Derived.Test.YtfoofbcmaljmoaaGreatDoorPcp
import Derived.Test.YtfoofbcmaljmoaaGreatDoorCtp
import Derived.Test.YtfoofbcmaljmoaaGreatDoorPrs
namespace Go.Proofs.YtfoofbcmaljmoaaGreatDoor
open Go.RowKit
set_option linter.unusedVariables false
set_option linter.unusedSimpArgs false

theorem jn_mem2 (c : UInt8) : ∀ (ws : List (List UInt8)) (x : UInt8), x ∈ jn c ws → x = c ∨ ∃ w ∈ ws, x ∈ w
 | [], x, h => by cases h
 | [w], x, h => .inr ⟨w, by simp, h⟩
 | w :: y :: r, x, h => by
  rw [jn] at h
  rcases List.mem_append.1 h with h | h
  ·exact .inr ⟨w, by simp, h⟩
  ·rcases List.mem_cons.1 h with h | h
   ·exact .inl h
   ·rcases jn_mem2 c (y :: r) x h with h | ⟨w2, h1, h2⟩
    ·exact .inl h
    ·exact .inr ⟨w2, by simp only [List.mem_cons] at h1 ⊢; exact .inr h1, h2⟩

def cmWs (c : Cmd) : List (List UInt8) := [kwB c.k, c.n.data.toList] ++ (if c.a.data.toList = [] then [] else [c.a.data.toList]) ++ (if c.b.data.toList = [] then [] else [c.b.data.toList]) ++ (if hfB c.k then [fmT c.f.1 c.f.2.1 c.f.2.2] else [])
theorem cmT_jn (c : Cmd) : cmT c = jn 32 (cmWs c) := by
 unfold cmT cmWs optL
 by_cases h1 : c.a.data.toList = [] <;> by_cases h2 : c.b.data.toList = [] <;> cases h3 : hfB c.k <;> simp [h1, h2, jn]
theorem em_tx {s : ByteArray} (h : emB s = true) : s = tx [] := by
 unfold emB at h
 rw [decide_eq_true_eq, Lib.toList_data] at h
 rw [← tx_of s, h]
theorem nm_no {s : ByteArray} (h : nmB s = true) : (32 : UInt8) ∉ s.data.toList ∧ s.data.toList ≠ [] := by
 unfold nmB at h
 rw [Bool.and_eq_true, Bool.and_eq_true, decide_eq_true_eq, List.all_eq_true] at h
 refine ⟨fun hx => ?_, fun hx => ?_⟩
 ·have := h.1 _ hx
  revert this
  decide
 ·have e : s.size = 0 := by rw [Lib.size_eq, hx]; rfl
  omega
theorem kw_no (k : Int) : (32 : UInt8) ∉ kwB k := by unfold kwB; (repeat' split) <;> decide
theorem fm_no (a b c : Int) : (32 : UInt8) ∉ fmT a b c := by
 rw [fm_jn]
 intro h
 rcases List.mem_append.1 h with h | h
 ·rcases List.mem_append.1 h with h | h
  ·revert h; decide
  ·rcases jn_mem2 _ _ _ h with h | ⟨w, hw, h⟩
   ·revert h; decide
   ·obtain ⟨x, _, rfl⟩ := List.mem_map.1 hw
    have := itoa_all x _ h
    revert this
    unfold NmC DgC
    decide
 ·revert h; decide
theorem cm_cases {c : Cmd} (h : cmB c = true) : nmB c.n = true ∧ (((c.k = 1 ∨ c.k = 5) ∧ c.a = tx [] ∧ c.b = tx [] ∧ formB c.f.1 c.f.2.1 c.f.2.2 = true ∧ hfB c.k = true) ∨ (c.k = 2 ∧ c.a = tx [] ∧ c.b = tx [] ∧ c.f = (0, 0, 0)) ∨ (c.k = 3 ∧ nmB c.a = true ∧ nmB c.b = true ∧ c.f = (0, 0, 0)) ∨ (c.k = 4 ∧ nmB c.a = true ∧ c.b = tx [] ∧ c.f = (0, 0, 0))) := by
 have ze : ∀ {F : Int × Int × Int}, zeB F = true → F = (0, 0, 0) := fun {F} h => by
  obtain ⟨a, b, c⟩ := F
  have := ze_of h
  simp only at this
  simp [this]
 unfold cmB at h
 rw [Bool.and_eq_true] at h
 obtain ⟨hn, h⟩ := h
 refine ⟨hn, ?_⟩
 split at h
 ·rename_i hk
  rw [Bool.and_eq_true, Bool.and_eq_true] at h
  exact .inl ⟨hk, em_tx h.1, em_tx h.2.1, class_form h.2.2, by unfold hfB; rcases hk with hk | hk <;> rw [hk] <;> rfl⟩
 ·split at h
  ·rename_i hk
   rw [Bool.and_eq_true, Bool.and_eq_true] at h
   exact .inr (.inl ⟨hk, em_tx h.1, em_tx h.2.1, ze h.2.2⟩)
  ·split at h
   ·rename_i hk
    rw [Bool.and_eq_true, Bool.and_eq_true] at h
    exact .inr (.inr (.inl ⟨hk, h.1, h.2.1, ze h.2.2⟩))
   ·split at h
    ·rename_i hk
     rw [Bool.and_eq_true, Bool.and_eq_true] at h
     exact .inr (.inr (.inr ⟨hk, h.1, em_tx h.2.1, ze h.2.2⟩))
    ·cases h
def kdV (w : ByteArray) : Int := if w = tx [97, 100, 100] then 1 else if w = tx [100, 114, 111, 112] then 2 else if w = tx [109, 117, 108] then 3 else if w = tx [105, 110, 118] then 4 else if w = tx [109, 111, 118, 101] then 5 else 0
theorem tx_inj {a b : List UInt8} (h : tx a = tx b) : a = b := by rw [← tx_list a, h, tx_list]
theorem kd_kw {k : Int} (h1 : 1 ≤ k) (h5 : k ≤ 5) : kdV (tx (kwB k)) = k := by
 have : k = 1 ∨ k = 2 ∨ k = 3 ∨ k = 4 ∨ k = 5 := by omega
 rcases this with rfl | rfl | rfl | rfl | rfl <;> decide
def stI (k : Int) (c : Cmd) (w : ByteArray) : Cmd := if k = 1 ∨ k = 5 then { c with f := pfV w } else if c.a.toList = [] then { c with a := w } else { c with b := w }
def cdI (ws : List ByteArray) : Cmd := (ws.drop 2).foldl (stI (kdV (ws.getD 0 ⟨#[]⟩))) ⟨kdV (ws.getD 0 ⟨#[]⟩), ws.getD 1 ⟨#[]⟩, tx [], tx [], (0, 0, 0)⟩
def cmW (c : Cmd) : List ByteArray := (cmWs c).map tx
theorem spW_cm {c : Cmd} (h : cmB c = true) : spW (tx (cmT c)) = cmW c ∧ spl 32 [] (cmT c) = cmWs c := by
 have hno : ∀ w ∈ cmWs c, (32 : UInt8) ∉ w := by
  obtain ⟨hn, hc⟩ := cm_cases h
  have e0 : ∀ s : ByteArray, s = tx [] → s.data.toList = [] := fun s hs => by rw [hs, tx_list]
  intro w hw
  simp only [cmWs, List.mem_append, List.mem_cons, List.not_mem_nil, or_false] at hw
  rcases hw with ((hw | hw) | hw) | hw
  ·rcases hw with rfl | rfl
   ·exact kw_no _
   ·exact (nm_no hn).1
  ·split at hw
   ·cases hw
   ·rename_i q
    simp only [List.mem_cons, List.not_mem_nil, or_false] at hw
    subst hw
    rcases hc with ⟨_, ha, _⟩ | ⟨_, ha, _⟩ | ⟨_, ha, _⟩ | ⟨_, ha, _⟩
    ·exact absurd (e0 _ ha) q
    ·exact absurd (e0 _ ha) q
    ·exact (nm_no ha).1
    ·exact (nm_no ha).1
  ·split at hw
   ·cases hw
   ·rename_i q
    simp only [List.mem_cons, List.not_mem_nil, or_false] at hw
    subst hw
    rcases hc with ⟨_, _, hb, _⟩ | ⟨_, _, hb, _⟩ | ⟨_, _, hb, _⟩ | ⟨_, _, hb, _⟩
    ·exact absurd (e0 _ hb) q
    ·exact absurd (e0 _ hb) q
    ·exact (nm_no hb).1
    ·exact absurd (e0 _ hb) q
  ·split at hw
   ·simp only [List.mem_cons, List.not_mem_nil, or_false] at hw
    subst hw
    exact fm_no _ _ _
   ·cases hw
 have hne : cmWs c ≠ [] := by simp [cmWs]
 refine ⟨?_, by rw [cmT_jn]; exact spl_jn 32 _ hne hno⟩
 have h2 := (split_jn 32 (cmWs c) hne hno).2
 have e : (spW (tx (cmT c))).map (·.data.toList) = cmWs c := by
  unfold spW
  rw [Lib.splitB_data]
  unfold Lib.countB
  rw [tx_list, tx_list, cmT_jn, h2]
 unfold cmW
 rw [← e, List.map_map]
 have : ∀ x ∈ spW (tx (cmT c)), (tx ∘ fun x => x.data.toList) x = x := fun x _ => tx_of x
 rw [List.map_congr_left this, List.map_id']
theorem cdI_cm {c : Cmd} (h : cmB c = true) : 2 ≤ (cmW c).length ∧ cdI (cmW c) = c := by
 obtain ⟨hn, hc⟩ := cm_cases h
 have hv := cm_valid h
 have hk := kd_kw hv.1 hv.2.1
 have e0 : ∀ s : ByteArray, s = tx [] → s.data.toList = [] := fun s hs => by rw [hs, tx_list]
 have em : (tx []).toList = [] := by rw [Lib.toList_data, tx_list]
 have hl : 2 ≤ (cmW c).length := by first | (simp [cmW, cmWs]; done) | (simp [cmW, cmWs]; omega)
 refine ⟨hl, ?_⟩
 have g0 : (cmW c).getD 0 ⟨#[]⟩ = tx (kwB c.k) := by simp [cmW, cmWs]
 have g1 : (cmW c).getD 1 ⟨#[]⟩ = c.n := by simp [cmW, cmWs, tx_of]
 unfold cdI
 rw [g0, g1, hk]
 obtain ⟨k, n, a, b, f⟩ := c
 simp only at hc hn hk g0 g1 ⊢
 rcases hc with ⟨h1, ha, hb, hf, hh⟩ | ⟨h1, ha, hb, hf⟩ | ⟨h1, ha, hb, hf⟩ | ⟨h1, ha, hb, hf⟩
 ·subst ha; subst hb
  have e1 : (cmW ⟨k, n, tx [], tx [], f⟩).drop 2 = [tx (fmT f.1 f.2.1 f.2.2)] := by simp [cmW, cmWs, tx_list, hh]
  rw [e1]
  simp only [List.foldl_cons, List.foldl_nil, stI]
  rw [if_pos h1, pf_form hf]
 ·subst h1; subst ha; subst hb; subst hf
  have e1 : (cmW ⟨2, n, tx [], tx [], (0, 0, 0)⟩).drop 2 = [] := by simp [cmW, cmWs, tx_list, hfB]
  rw [e1]; rfl
 ·subst h1; subst hf
  have na := (nm_no ha).2
  have nb := (nm_no hb).2
  have e1 : (cmW ⟨3, n, a, b, (0, 0, 0)⟩).drop 2 = [a, b] := by simp [cmW, cmWs, na, nb, hfB, tx_of]
  have qa : ¬ a.toList = [] := by rw [Lib.toList_data]; exact na
  rw [e1]
  simp [stI, em, qa]
 ·subst h1; subst hb; subst hf
  have na := (nm_no ha).2
  have e1 : (cmW ⟨4, n, a, tx [], (0, 0, 0)⟩).drop 2 = [a] := by simp [cmW, cmWs, na, hfB, tx_of, tx_list]
  rw [e1]
  simp [stI, em]
end Go.Proofs.YtfoofbcmaljmoaaGreatDoor
