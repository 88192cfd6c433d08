/- Numerals on both sides. -/
import Derived.Test.YtfoofbcmaljmoaaGreatDoorTxp
import Derived.Test.YtfoofbcmaljmoaaGreatDoorSh
import Derived.Test.YtfoofbcmaljmoaaGreatDoorRows
import Derived.Test.YtfoofbcmaljmoaaGreatDoorArI
import Derived.Test.YtfoofbcmaljmoaaGreatDoorToR
namespace Go.Proofs.YtfoofbcmaljmoaaGreatDoor
open Go.RowKit
set_option linter.unusedVariables false
set_option linter.unusedSimpArgs false
attribute [local go_sem] q2 q3 q4 q5 q6 q7 q8 q9 q10 q11 q12

def powName : String := "internal/strconv.uint64pow10"
def Tab (w : World) : Prop := Lib.TabIs Tryz.prog w powName .u64 Lib.pow10Tab
theorem Tab.below {w w' : World} (h : Tab w) (hb : Below w.heap.size w w') : Tab w' := Lib.tabBelow_of_tabIs h w' hb
theorem itoa_a (x : Int) (w : World) (h0 : I64 x) (ht : Tab w) :
  Calls Tryz.prog 39 #[.int .i64 x] w fun e w' => e = .returned (.string (tx (Lib.itoa x))) ∧ Below w.heap.size w w' := by
 refine (Any.strconv_Itoa Tryz.laysM171 x h0.1 h0.2 w ht).mono ?_
 rintro e w' ⟨rfl, k, os, rfl⟩
 exact ⟨rfl, Lib.below_grow _ w (Nat.le_refl _) k os⟩
theorem itoa_e (x : Int) (l : List UInt8) (w : World) (h0 : I64 x) (hl : Lib.itoa x = l) (ht : Tab w) :
  Calls Tryz.prog 39 #[.int .i64 x] w fun e w' => e = .returned (.string (tx l)) ∧ Below w.heap.size w w' := by
 subst hl; exact itoa_a x w h0 ht

def OneB (x : Int) (w : World) (v : Value) : Prop := ∃ g : Nat, v = .slice (some ⟨g, 0, none⟩) 1 1 ∧ w.cell? ⟨g, 0, none⟩ = some (.int .u8 x)
theorem OneB.st {x : Int} : StB (OneB x) := fun W w' v hb ⟨g, h1, h2⟩ => ⟨g, h1, cell_call hb h2⟩
theorem conv_one {w : World} {g : Nat} {x : Int} (h : w.cell? ⟨g, 0, none⟩ = some (.int .u8 x)) : (convert 63 9 (.slice (some ⟨g, 0, none⟩) 1 1)).run Tryz.prog w = .ok (.string (strOfNums [x])) w := by
 refine run_convert_bytes_arg _ 63 5 Tryz.underlying63 Tryz.underlying5 g 0 1 1 [x] rfl ?_ 9 Tryz.underlying9
 intro i hi
 obtain rfl : i = 0 := by omega
 simpa using h
theorem conv_dig {w : World} {g d : Nat} (h : w.cell? ⟨g, 0, none⟩ = some (.int .u8 (48 + (d : Int)))) : (convert 63 9 (.slice (some ⟨g, 0, none⟩) 1 1)).run Tryz.prog w = .ok (.string (tx [dgb d])) w := by
 rw [conv_one h, strOne]

set_option maxRecDepth 100000 in
set_option maxHeartbeats 4000000 in
theorem l1Num_a (n : Nat) : ∀ (w : World), n ≤ 9223372036854775807 → Calls Tryz.prog 65 #[.int .i64 (n : Int)] w fun e w' => e = .returned (.string (tx (Lib.decDigits n))) ∧ Below w.heap.size w w' := by
 induction n using Nat.strongRecOn with
 | _ n ih =>
  intro w hn
  have kc := str_one
  by_cases c : n < 10
  ·have hc : (n : Int) < 10 := by omega
   have ha : 0 ≤ 48 + (n : Int) := by omega
   have hb : 48 + (n : Int) < 256 := by omega
   have HL : Hid (Lib.decDigits n = [dgb n]) := hide (dg_small c)
   have HS := hide (strOne n)
   go_enter Tryz.func65, Tryz.ntmps65
   go_wp2
   all_goals first | (exfalso; omega) | (go_ret; exact ⟨by rw [unhide HL, ← unhide HS]; rfl, byGG⟩)
  ·have hc : (10 : Int) ≤ (n : Int) := by omega
   obtain ⟨q, hq⟩ : ∃ q, n / 10 = q := ⟨_, rfl⟩
   obtain ⟨d, hd⟩ : ∃ d, n % 10 = d := ⟨_, rfl⟩
   have HL := hide (dg_next c hq hd)
   have hnq : n = 10 * q + d := by omega
   have hd1 : d < 10 := by omega
   clear hq hd c kc
   have hlq := dg_len (u := q) (by omega)
   have hQ : Int.tdiv (n : Int) 10 = (q : Int) := by rw [Int.tdiv_eq_ediv_of_nonneg (by omega)]; omega
   have hR : Int.tmod (n : Int) 10 = (d : Int) := by rw [Int.tmod_eq_emod_of_nonneg (by omega)]; omega
   have hqn : q < n := by omega
   have hq9 : q ≤ 9223372036854775807 := by omega
   have hU : IntKind.u8.wrap (48 + (d : Int)) = 48 + (d : Int) := IntWalk.u8_in _ (by omega)
   clear hnq
   go_enter Tryz.func65, Tryz.ntmps65
   go_upto_region 3 with fail
   go_cut [2] (fun s2 wx => s2 = .string (tx (Lib.decDigits q ++ [dgb d])) ∧ Below w.heap.size w wx)
   case first =>
    have h1 := trivial
    rename_i K2 h2 h3
    let hgf9 : Nat → World → Value → Prop := fun j => match j with | 0 => Kd.ok (Kd.val (.int .i64 ((n : Int)))) | 1 => Kd.ok (Kd.val (.int .i64 ((q : Int)))) | 2 => Kd.ok (Kd.val (.string (tx (Lib.decDigits q)))) | 3 => Kd.ok (Kd.val (.int .i64 ((n : Int)))) | 4 => Kd.ok (Kd.val (.int .i64 ((d : Int)))) | 5 => Kd.ok (Kd.val (.int .i64 (48 + ((d : Int))))) | 6 => Kd.ok (Kd.val (.int .u8 (48 + (d : Int)))) | 7 => (OneB (48 + (d : Int))) | 8 => Kd.ok (Kd.val (.string (tx [dgb d]))) | 9 => Kd.ok (Kd.val (.string (tx (Lib.decDigits q ++ [dgb d])))) | 10 => Kd.ok (Kd.val (.string (tx (Lib.decDigits q ++ [dgb d])))) | _ => Kd.ok Kd.any
    have hst9 : ∀ j, StB (hgf9 j) := fun j => match j with | 0 => (Kd.st (Kd.val (.int .i64 ((n : Int)))) : StB (Kd.ok (Kd.val (.int .i64 ((n : Int)))))) | 1 => (Kd.st (Kd.val (.int .i64 ((q : Int)))) : StB (Kd.ok (Kd.val (.int .i64 ((q : Int)))))) | 2 => (Kd.st (Kd.val (.string (tx (Lib.decDigits q)))) : StB (Kd.ok (Kd.val (.string (tx (Lib.decDigits q)))))) | 3 => (Kd.st (Kd.val (.int .i64 ((n : Int)))) : StB (Kd.ok (Kd.val (.int .i64 ((n : Int)))))) | 4 => (Kd.st (Kd.val (.int .i64 ((d : Int)))) : StB (Kd.ok (Kd.val (.int .i64 ((d : Int)))))) | 5 => (Kd.st (Kd.val (.int .i64 (48 + ((d : Int))))) : StB (Kd.ok (Kd.val (.int .i64 (48 + ((d : Int))))))) | 6 => (Kd.st (Kd.val (.int .u8 (48 + (d : Int)))) : StB (Kd.ok (Kd.val (.int .u8 (48 + (d : Int)))))) | 7 => (OneB.st : StB (OneB (48 + (d : Int)))) | 8 => (Kd.st (Kd.val (.string (tx [dgb d]))) : StB (Kd.ok (Kd.val (.string (tx [dgb d]))))) | 9 => (Kd.st (Kd.val (.string (tx (Lib.decDigits q ++ [dgb d])))) : StB (Kd.ok (Kd.val (.string (tx (Lib.decDigits q ++ [dgb d])))))) | 10 => (Kd.st (Kd.val (.string (tx (Lib.decDigits q ++ [dgb d])))) : StB (Kd.ok (Kd.val (.string (tx (Lib.decDigits q ++ [dgb d])))))) | j + 11 => (Kd.st Kd.any : StB (Kd.ok Kd.any))
    refine region_n0 (by kernel_rfl) (fun j => #[10,11,12,13,14,15,16,17,18,19,2].getD j 0) (hgf9) (Sy w (w.heap.size) [] []) (by kernel_rfl) (by kernel_rfl) ?_ ?_ ?_ ?_
    ·intro j hj
     have hj2 : j < 11 := hj
     have : ∀ j, j < 11 → (#[10,11,12,13,14,15,16,17,18,19,2] : Array Nat).getD j 0 < 20 := by decide
     exact this j hj2
    ·refine Sy.drew (Sy.mk_of ?_ ?_ ?_ ?_)
     ·first | rfl | (simp; done) | (simp; omega)
     ·intro c hc; cases hc
     ·intro p hp; cases hp
     ·(repeat' first | with_reducible (first | exact Below.refl _ _ | assumption | refine gr_alloc ?_ _ | refine below_drewN ?_ _ | refine below_drew ?_ | refine gr_call ?_ (by assumption) | refine Below.setCell ?_ ?_ _) | go_size | omega | (simp; omega))
    ·clear h1 h2 h3
     refine ⟨?r1x0, ?r1x1, ?r1x2, ?r1x3, ?r1x4, ?r1x5, ?r1x6, ?r1x7, ?r1x8, ?r1x9, ?r1x10, trivial⟩
     all_goals intro _ aq wx Kq hf hS hdep ev1 ev2 hK
     case' r1x0 =>
      have F0 : aq.eval (.tmp 0) = .int .i64 ((n : Int)) := hf 0
     case' r1x1 =>
      have D0 : aq.eval (.tmp 10) = _ := hdep 0
     case' r1x2 =>
      have D1 : aq.eval (.tmp 11) = _ := hdep 1
     case' r1x3 =>
      have F0 : aq.eval (.tmp 0) = .int .i64 ((n : Int)) := hf 0
     case' r1x4 =>
      have D3 : aq.eval (.tmp 13) = _ := hdep 3
     case' r1x5 =>
      have D4 : aq.eval (.tmp 14) = _ := hdep 4
     case' r1x6 =>
      have D5 : aq.eval (.tmp 15) = _ := hdep 5
     case' r1x7 =>
      have D6 : aq.eval (.tmp 16) = _ := hdep 6
     case' r1x8 =>
      obtain ⟨gs17, DP17, hcs17⟩ := hdep 7
      change aq.eval (.tmp 17) = _ at DP17
      have kc := conv_dig hcs17
     case' r1x9 =>
      have D2 : aq.eval (.tmp 12) = _ := hdep 2
      have D8 : aq.eval (.tmp 18) = _ := hdep 8
     case' r1x10 =>
      have D9 : aq.eval (.tmp 19) = _ := hdep 9
     all_goals (clear hf hdep; unfold Oper.wp; generalize Act.eval _ = ev at *; go_simp)
     case' r1x1 =>
      try rw [if_neg (by omega), Oper.upon_value]
     case r1x2 =>
      refine ((ih q (by assumption) _ (by assumption))).mono ?_
      rintro e w2 ⟨rfl, hb⟩
      refine hK _ _ (hS.call hb) ?_ (fun j u _ h => hst9 j _ _ _ hb h)
      rw [if_pos (by rfl)]
      show (_ : Value) = _
      first | rfl | (refine congrArg (Value.int .i64) ?_; first | rfl | exact int_in (by omega) | exact quo_in (by omega) (by omega) (by omega) | exact rem_in (by omega) (by omega) | omega | exact (quo_in (by omega) (by omega) (by omega)).trans (by omega) | exact (rem_in (by omega) (by omega) (by omega)).trans (by omega)) | (simp; done) | (simp [*]; done) | exact vtx _ _ | (refine congrArg (Value.int .u8) ?_; omega)
     case' r1x4 =>
      try rw [if_neg (by omega), Oper.upon_value]
     case r1x7 =>
      refine hK _ _ (hS.call (below_alloc_self _ _)) ?_ (fun j u _ h => hst9 j _ _ _ (below_alloc_self _ _) h)
      rw [if_pos (by rfl)]
      exact ⟨_, rfl, by go_simp⟩
     case' r1x9 =>
      rw [if_neg (by simp only [tx_size, ByteArray.size_mk', List.size_toArray, List.length_append, List.length_cons, List.length_nil]; omega), Oper.upon_value]
     all_goals (refine hK _ _ hS ?_ (fun j u _ h => h); rw [if_pos (by rfl)]; show (_ : Value) = _; (first | rfl | (refine congrArg (Value.int .i64) ?_; first | rfl | exact int_in (by omega) | exact quo_in (by omega) (by omega) (by omega) | exact rem_in (by omega) (by omega) | omega | exact (quo_in (by omega) (by omega) (by omega)).trans (by omega) | exact (rem_in (by omega) (by omega) (by omega)).trans (by omega)) | (simp; done) | (simp [*]; done) | exact vtx _ _ | (refine congrArg (Value.int .u8) ?_; omega)))
    ·intro aq wx hd hw hf hS hg
     have G2 : tau aq 2 = .string (tx (Lib.decDigits q ++ [dgb d])) := hg 10 (by decide)
     have haq : aq = ⟨#[tau aq 0, tau aq 1, tau aq 2, tau aq 3, tau aq 4, tau aq 5, tau aq 6, tau aq 7, tau aq 8, tau aq 9, tau aq 10, tau aq 11, tau aq 12, tau aq 13, tau aq 14, tau aq 15, tau aq 16, tau aq 17, tau aq 18, tau aq 19], []⟩ := by
      obtain ⟨tq, dq⟩ := aq
      have h5 := arr_eq (show tq.size = 20 from hw)
      have h6 : dq = [] := hd
      subst h6
      exact congrArg (fun z => Act.mk z []) h5
     show K2 aq wx
     rw [haq, hf 0, hf 1, hf 3, hf 4, hf 5, hf 6, hf 7, hf 8, hf 9, G2]
     clear haq hf hd hw
     try dsimp only
     refine h3 _ _ ?_
     go_meet
     exact ⟨rfl, hS.below⟩
   obtain ⟨rfl, hb0⟩ := hcut
   go_wp2
   go_ret
   exact ⟨by rw [unhide HL]; rfl, hb0⟩

set_option maxRecDepth 100000 in
set_option maxHeartbeats 1000000 in
theorem l1Int_a (x : Int) (w : World) (h0 : -9223372036854775807 ≤ x) (h1 : x ≤ 9223372036854775807) : Calls Tryz.prog 48 #[.int .i64 x] w fun e w' => e = .returned (.string (tx (Lib.itoa x))) ∧ Below w.heap.size w w' := by
 by_cases c : x < 0
 ·obtain ⟨u, hu⟩ : ∃ u : Nat, -x = (u : Int) := ⟨x.natAbs, by omega⟩
  have HI : Hid (Lib.itoa x = [45] ++ Lib.decDigits u) := hide (by rw [itoa_neg' c, show x.natAbs = u by omega]; rfl)
  have hl := dg_len (u := u) (by omega)
  have hs : ¬ (1 + (tx (Lib.decDigits u)).size > 9223372036854775807) := by rw [tx_size]; omega
  go_enter Tryz.func48, Tryz.ntmps48
  go_wp2_with fail
  refine (l1Num_a u _ (by omega)).mono ?_
  rintro e w1 ⟨rfl, hb⟩
  go_wp2
  go_ret
  exact ⟨by rw [unhide HI, ← tx_app]; rfl, hb⟩
 ·obtain ⟨u, rfl⟩ := Int.eq_ofNat_of_zero_le (show 0 ≤ x by omega)
  have HI := hide (itoa_pos (show (0 : Int) ≤ (u : Int) by omega))
  go_enter Tryz.func48, Tryz.ntmps48
  go_wp2_with fail
  refine (l1Num_a u _ (by omega)).mono ?_
  rintro e w1 ⟨rfl, hb⟩
  go_wp2
  go_ret
  exact ⟨by rw [unhide HI]; rfl, hb⟩
theorem l1Int_e (x : Int) (l : List UInt8) (w : World) (h0 : -9223372036854775807 ≤ x) (h1 : x ≤ 9223372036854775807) (hl : Lib.itoa x = l) : Calls Tryz.prog 48 #[.int .i64 x] w fun e w' => e = .returned (.string (tx l)) ∧ Below w.heap.size w w' := by
 subst hl; exact l1Int_a x w h0 h1
end Go.Proofs.YtfoofbcmaljmoaaGreatDoor
