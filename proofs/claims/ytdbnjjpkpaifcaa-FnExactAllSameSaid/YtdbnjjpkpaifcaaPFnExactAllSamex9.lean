-- Written by a program of this project (myprint.py, by way of the kit's printer). Not trusted: Lean checks it.
-- shrunk
import Derived.Test.YtdbnjjpkpaifcaaPFnExactAllSamex0
import Derived.Test.YtdbnjjpkpaifcaaPFnExactAllSamex1
namespace Go.Proofs.Ytdbnjjpkpaifcaa.PFnExactAllSame
open Go.RowKit Go.Proofs.YtdbnjjpkpaifcaaW.PrintWords Go.Proofs.YtdbnjjpkpaifcaaW.PrintLast Go.Proofs.YtdbnjjpkpaifcaaW.PrintMore
attribute [local go_sem] max2_int min2_int max_two min_two max_three min_three max_four min_four   -- for this text's walks alone
set_option linter.unusedVariables false
set_option linter.unusedSimpArgs false

attribute [local go_sem high] eqA69
/-! ### impl_sides: function 55 -/
def fnd {α : Type} (p : α → Bool) : List α → Int → Int
 | [], _ => -1
 | x :: l, i => if p x = true then i else fnd p l (i + 1)
theorem drewN_add (w : World) (m n : Nat) : (w.drewN m).drewN n = w.drewN (m + n) := by
 simp [World.drewN, Nat.add_assoc]
def lnk (a b : Int) (l : List Int) : Bool := (rd l 0 == mn a b) && (rd l 1 == mx a b)
theorem link_pred (a b : Int) (Ba Bb : Nat) (W : World) (A : Option Addr) (c : Nat) (l : List Int) (hr : Kd.C (Kd.int .i64) W A l.length l) (hl : l.length = 2) (hca : W.cell? ⟨Ba, 0, none⟩ = some (.int .i64 a)) (hcb : W.cell? ⟨Bb, 0, none⟩ = some (.int .i64 b)) :
  Calls Try.prog 65 #[.slice A l.length c, .pointer (some ⟨Ba, 0, none⟩), .pointer (some ⟨Bb, 0, none⟩)] W fun e w' => e = .returned (.bool (lnk a b l)) ∧ ∃ n, w' = W.drewN n := by
 obtain ⟨ad, rfl, hx0⟩ := Kd.at_int hr 0 (by omega) (by omega)
 obtain ⟨ad1, e1, hx1⟩ := Kd.at_int hr 1 (by omega) (by omega)
 obtain rfl : ad = ad1 := by injection e1
 clear e1
 rw [hl]
 simp only [Int.toNat_zero, Int.reduceToNat] at hx0 hx1
 have ez : ad.add 0 = ad := by unfold Addr.add; split <;> simp_all
 rw [ez] at hx0
 clear ez
 have e1 : ad.add 1 = ⟨ad.block, ad.off + 1, none⟩ := by simp [Addr.add]
 rw [e1] at hx1
 clear e1
 clear hr hl
 unfold lnk
 by_cases h0 : rd l 0 = mn a b
 ·have h0b : (rd l 0 == if b < a then b else a) = true := beq_iff_eq.mpr h0
  have H0 := Aside0.mk h0b
  clear h0
  go_enter Try.func65, Try.ntmps65
  go_wp2
  go_quiet (fail)
  go_wp2
  all_goals go_ret
  all_goals exact ⟨by show Ending.returned (Value.bool _) = Ending.returned (Value.bool ((rd l 0 == if b < a then b else a) && (rd l 1 == if a < b then b else a))); rw [H0.out, Bool.true_and]; rcases Int.lt_or_le a b with hab | hab; (rw [if_pos hab] <;> first | rfl | (exfalso; omega)); (rw [if_neg (by omega)] <;> first | rfl | (exfalso; omega) | ((have e_ : a = b := by omega); subst e_; rfl)), _, rfl⟩
 ·have h0b : (rd l 0 == if b < a then b else a) = false := beq_eq_false_iff_ne.mpr h0
  have H0 := Aside0.mk h0b
  clear h0
  go_enter Try.func65, Try.ntmps65
  go_wp2
  go_quiet (fail)
  go_wp2
  all_goals go_ret
  all_goals exact ⟨by show _ = Ending.returned (Value.bool ((rd l 0 == if b < a then b else a) && _)); rw [H0.out]; rfl, _, rfl⟩
set_option maxHeartbeats 8000000 in
set_option maxRecDepth 100000 in
theorem link_find (a b : Int) (Ba Bb : Nat) (w : World) (A : Option Addr) (c : Nat) (l : List (List Int)) (hca : w.cell? ⟨Ba, 0, none⟩ = some (.int .i64 a)) (hcb : w.cell? ⟨Bb, 0, none⟩ = some (.int .i64 b)) (hr : Kd.C (Kd.slice 3 (Kd.int .i64)) w A l.length l) (hc : l.length ≤ c) (hn : l.length ≤ 4611686018427387904) (h2 : ∀ x ∈ l, x.length = 2) :
  Calls Try.prog 69 #[.slice A l.length c, .func (.func 65) #[] #[.pointer (some ⟨Ba, 0, none⟩), .pointer (some ⟨Bb, 0, none⟩)]] w fun e w' => e = .returned (.int .i64 (fnd (lnk a b) l 0)) ∧ ∃ n, w' = w.drewN n := by
 have HR := Aside0.mk hr
 have HA := Aside0.mk hca
 have HBc := Aside0.mk hcb
 have H2 := Aside0.mk h2
 clear hr hca hcb h2
 obtain ⟨R, hR⟩ : ∃ R, fnd (lnk a b) l 0 = R := ⟨_, rfl⟩
 rw [hR]
 have HF := Aside0.mk hR
 clear hR
 go_enter Try.func69, Try.ntmps69
 go_wp2
 go_loopw [8] (fun v wr => ∃ j : Nat, v = .int .i64 j ∧ Aside0 (j ≤ l.length) ∧ Aside0 (fnd (lnk a b) (l.drop j) j = R) ∧ Aside0 (∃ n, wr = w.drewN n)) (fun v _ => l.length - (intOf v).toNat)
 case atStart => exact ⟨0, rfl, ⟨Nat.zero_le _⟩, ⟨HF.out⟩, ⟨0, rfl⟩⟩
 case round =>
  obtain ⟨j, rfl, HJ, HJF, HD⟩ := hrel
  obtain ⟨nd, rfl⟩ := HD.out
  clear HD
  by_cases hlt : j < l.length
  ·obtain ⟨ad, A0, c0, rfl, hx0, hl0, hi0⟩ := at_L1 HR.out (j : Int) (by omega) (by omega)
   simp only [Int.toNat_natCast] at hx0
   have hd : l.drop j = rd_L1 l (j : Int) :: l.drop (j + 1) := by
    rw [List.drop_eq_getElem_cons hlt]
    congr 1
    simp [rd_L1, List.getD_eq_getElem?_getD, List.getElem?_eq_getElem hlt]
   have hlen : (rd_L1 l (j : Int)).length = 2 := by
    refine H2.out _ ?_
    rw [show rd_L1 l (j : Int) = l[j] by simp [rd_L1, List.getD_eq_getElem?_getD, List.getElem?_eq_getElem hlt]]
    exact List.getElem_mem _
   have hJ2 := HJF.out
   rw [hd] at hJ2
   unfold fnd at hJ2
   have HL := Aside0.mk hlen
   have HL0 := Aside0.mk hl0
   have HI0 := Aside0.mk hi0
   clear hd HJF HJ hlen hl0 hi0
   replace hx0 : (w.drewN nd).cell? (ad.add j) = some (.slice A0 (rd_L1 l (j : Int)).length c0) := hx0
   by_cases hp : lnk a b (rd_L1 l (j : Int)) = true
   ·rw [if_pos hp] at hJ2
    have HP := Aside0.mk hp
    have HJ2 := Aside0.mk hJ2
    clear hp hJ2
    go_wp2_with fail
    refine (link_pred a b Ba Bb (w.drewN nd) A0 c0 (rd_L1 l (j : Int)) HI0.out HL.out HA.out HBc.out).mono ?_
    rintro e w2 ⟨rfl, hd2⟩
    have HD2 := Aside0.mk hd2
    clear hd2 hx0
    have hp := HP.out
    go_wp2
    go_ret
    exact ⟨(by show Ending.returned (Value.int .i64 (j : Int)) = _; rw [HJ2.out]), by obtain ⟨n2, h2⟩ := HD2.out; exact ⟨nd + n2, by rw [h2, drewN_add]⟩⟩
   ·rw [if_neg hp] at hJ2
    have HP := Aside0.mk (Bool.eq_false_iff.mpr hp)
    have HJ2 := Aside0.mk hJ2
    clear hp hJ2
    go_wp2_with fail
    refine (link_pred a b Ba Bb (w.drewN nd) A0 c0 (rd_L1 l (j : Int)) HI0.out HL.out HA.out HBc.out).mono ?_
    rintro e w2 ⟨rfl, hd2⟩
    have HD2 := Aside0.mk hd2
    clear hd2 hx0
    have hp := HP.out
    go_wp2
    go_roundw
    case rel => exact ⟨j + 1, by go_num, ⟨by omega⟩, ⟨by rw [← HJ2.out]; rfl⟩, ⟨by obtain ⟨n2, h2⟩ := HD2.out; exact ⟨nd + n2, by rw [h2, drewN_add]⟩⟩⟩
    case measure => simp [intOf]; omega
  ·have hj := HJ.out
   have e : j = l.length := by omega
   have hJ2 := HJF.out
   rw [e, List.drop_length] at hJ2
   have HJ2 := Aside0.mk hJ2
   clear hJ2 HJF hj
   clear e
   go_wp2
   go_ret
   exact ⟨by rw [← HJ2.out]; rfl, nd, rfl⟩
theorem fnd_any {α : Type} (p : α → Bool) : ∀ (l : List α) (i : Int), 0 ≤ i → decide (fnd p l i ≥ 0) = l.any p
 | [], i, _ => rfl
 | x :: l, i, h => by
  unfold fnd
  rw [List.any_cons]
  by_cases hp : p x = true
  ·rw [if_pos hp, hp]
   simpa using h
  ·rw [if_neg hp, Bool.eq_false_iff.mpr hp, Bool.false_or]
   exact fnd_any p l (i + 1) (by omega)
theorem link_any (a b : Int) (Ba Bb : Nat) (w : World) (A : Option Addr) (c : Nat) (l : List (List Int)) (hca : w.cell? ⟨Ba, 0, none⟩ = some (.int .i64 a)) (hcb : w.cell? ⟨Bb, 0, none⟩ = some (.int .i64 b)) (hr : Kd.C (Kd.slice 3 (Kd.int .i64)) w A l.length l) (hc : l.length ≤ c) (hn : l.length ≤ 4611686018427387904) (h2 : ∀ x ∈ l, x.length = 2) :
  Calls Try.prog 64 #[.slice A l.length c, .func (.func 65) #[] #[.pointer (some ⟨Ba, 0, none⟩), .pointer (some ⟨Bb, 0, none⟩)]] w fun e w' => e = .returned (.bool (l.any (lnk a b))) ∧ ∃ n, w' = w.drewN n := by
 have hcon := link_find a b Ba Bb w A c l hca hcb hr hc hn h2
 rw [← fnd_any (lnk a b) l 0 (by omega)]
 clear hr hca hcb h2
 generalize fnd (lnk a b) l 0 = R at hcon ⊢
 go_enter Try.func64, Try.ntmps64
 go_wp2_with (go_at_call 69; refine hcon.mono ?_; rintro e w' ⟨rfl, nd, rfl⟩)
 go_ret
 exact ⟨rfl, nd, rfl⟩
/-- A row of sides: the neighbours from b on; and all rows from a on. -/
def sIn (ls : List (List Int)) (a : Int) : Nat → Nat → List S69
 | _, 0 => []
 | b, d + 1 => (if ls.any (lnk a (b : Int)) = true then [(⟨a, (b : Int)⟩ : S69)] else []) ++ sIn ls a (b + 1) d
def sOut (ls : List (List Int)) (n : Nat) : Nat → Nat → List S69
 | _, 0 => []
 | a, d + 1 => sIn ls (a : Int) 0 n ++ sOut ls n (a + 1) d
def impl_sides.f (a0 : Int) (l1 : List (List Int)) : Option (List S69) := if 0 ≤ a0 ∧ a0 ≤ 64 then (if l1.length ≤ 4611686018427387904 then (if (l1.all fun x => x.length == 2) = true then some (sOut l1 a0.toNat 0 a0.toNat) else none) else none) else none
theorem impl_sides.info : (Try.prog.info? 69).map (fun i => (i.zero, i.size, i.bytes)) = some (some (.agg #[(.int .i64 0), (.int .i64 0)]), 2, 16) := by kernel_rfl
set_option maxHeartbeats 8000000 in
set_option maxRecDepth 100000 in
theorem impl_sides.calls (a0 : Int) (A1 : Option Addr) (c1 : Nat) (l1 : List (List Int)) (r : List S69) (w : World) (hr1 : Kd.C (Kd.slice 3 (Kd.int .i64)) w A1 l1.length l1) (hc1 : l1.length ≤ c1) (h : impl_sides.f a0 l1 = some r) :
  Calls Try.prog 55 #[.int .i64 a0, .slice A1 l1.length c1] w fun e w' => ∃ v0_ : Value, e = .returned (v0_) ∧ Kd.R k69 69 w' w.heap.size (fun _ => True) v0_ r ∧ Below w.heap.size w w' := by
 unfold impl_sides.f at h
 by_cases h1 : 0 ≤ a0 ∧ a0 ≤ 64
 ·by_cases h2 : l1.length ≤ 4611686018427387904
  ·by_cases h3 : (l1.all fun x => x.length == 2) = true
   ·rw [if_pos h1, if_pos h2, if_pos h3] at h
    obtain rfl := Option.some.inj h
    clear h
    have H3 := Aside0.mk (show ∀ x ∈ l1, x.length = 2 from fun x hx => by simpa using List.all_eq_true.1 h3 x hx)
    clear h3
    obtain ⟨n, rfl⟩ := Int.eq_ofNat_of_zero_le h1.1
    have hn : n ≤ 64 := by omega
    clear h1
    rw [Int.toNat_natCast]
    have HR := Aside0.mk hr1
    clear hr1
    obtain ⟨R, hR⟩ : ∃ R, sOut l1 n 0 n = R := ⟨_, rfl⟩
    rw [hR]
    have HF := Aside0.mk hR
    clear hR
    go_enter Try.func55, Try.ntmps55
    go_wp2
    go_loopw [5, 9] (fun v5 v9 wr => ∃ (a : Nat) (out : List S69), v9 = .int .i64 a ∧ Aside0 (a ≤ n) ∧ Aside0 (out ++ sOut l1 n a (n - a) = R) ∧ Aside0 (out.length ≤ a * 64) ∧ Aside0 (Kd.R k69 69 wr w.heap.size (fun _ => True) v5 out) ∧ Aside0 (Below w.heap.size w wr)) (fun _ v _ => n - (intOf v).toNat)
    case atStart => exact ⟨0, [], rfl, ⟨Nat.zero_le _⟩, ⟨HF.out⟩, ⟨Nat.le_refl _⟩, ⟨Kd.R_nil _ _ _ _ _⟩, ⟨Below.refl _ _⟩⟩
    case round =>
     obtain ⟨a, out, rfl, HJ, HJF, HL, HO, HB⟩ := hrel
     by_cases hlt : a < n
     ·have hgb : n - a = (n - (a + 1)) + 1 := by omega
      have hJ2 := HJF.out
      rw [hgb] at hJ2
      simp only [sOut] at hJ2
      have HF2 := Aside0.mk hJ2
      clear hJ2 hgb HJF HJ
      obtain ⟨S2, hS2⟩ : ∃ S2, sOut l1 n (a + 1) (n - (a + 1)) = S2 := ⟨_, rfl⟩
      have HF3 := Aside0.mk (show out ++ (sIn l1 (a : Int) 0 n ++ S2) = R by rw [← hS2]; exact HF2.out)
      have HS2 := Aside0.mk hS2
      clear HF2 hS2
      have HBA := Aside0.mk (show (wr.alloc (.cells #[.int .i64 (a : Int)] 3)).heap[wr.heap.size]? = some (.cells #[.int .i64 (a : Int)] 3 (0, 0)) by simpa using heap_alloc_new wr _)
      obtain ⟨Ba, hBa⟩ : ∃ Ba, Ba = wr.heap.size := ⟨_, rfl⟩
      go_wp2
      rename World => wo
      go_loopw [5, 13] (fun v5 v13 wx => ∃ (b : Nat) (ou : List S69), v13 = .int .i64 b ∧ Aside0 (b ≤ n) ∧ Aside0 (ou ++ (sIn l1 (a : Int) b (n - b) ++ S2) = R) ∧ Aside0 (ou.length ≤ a * 64 + b) ∧ Aside0 (Kd.R k69 69 wx w.heap.size (fun _ => True) v5 ou) ∧ Aside0 (Below w.heap.size w wx) ∧ Aside0 (wx.heap[wo.heap.size]? = some (.cells #[.int .i64 (a : Int)] 3 (0, 0)))) (fun _ v _ => n - (intOf v).toNat)
      case atStart => exact ⟨0, out, rfl, ⟨Nat.zero_le _⟩, ⟨HF3.out⟩, ⟨by have := HL.out; omega⟩, ⟨Kd.R_alloc HO.out _⟩, ⟨below_alloc HB.out _⟩, HBA⟩
      case round =>
       obtain ⟨b, ou, rfl, HJb, HFb, HLb, HOb, HBb, HBAb⟩ := hrel
       by_cases hlb : b < n
       ·have hgb : n - b = (n - (b + 1)) + 1 := by omega
        have hJ2 := HFb.out
        rw [hgb] at hJ2
        simp only [sIn] at hJ2
        have HF4 := Aside0.mk hJ2
        clear hJ2 hgb HFb HJb
        have hLa := blk_lt HBAb.out
        have HBBb := Aside0.mk (show (wr.alloc (.cells #[.int .i64 (b : Int)] 3)).heap[wr.heap.size]? = some (.cells #[.int .i64 (b : Int)] 3 (0, 0)) by simpa using heap_alloc_new wr _)
        have HBA2 := Aside0.mk (blk_alloc HBAb.out (.cells #[.int .i64 (b : Int)] 3))
        have hcon := link_any (a : Int) (b : Int) wo.heap.size wr.heap.size (wr.alloc (.cells #[.int .i64 (b : Int)] 3)) A1 c1 l1 ((blk_cell HBA2.out 0).trans rfl) ((blk_cell HBBb.out 0).trans rfl) (Kd.C_alloc (Kd.C_below HR.out HBb.out) _) hc1 h2 H3.out
        have HCon := Aside0.mk hcon
        clear hcon
        by_cases hq : l1.any (lnk (a : Int) (b : Int)) = true
        ·rw [if_pos hq] at HF4
         have HQ := Aside0.mk hq
         clear hq
         go_wp2_with fail
         refine HCon.out.mono ?_
         rintro e w2 ⟨rfl, hd⟩
         have HB2 := Aside0.mk (show Below (wr.alloc (.cells #[.int .i64 (b : Int)] 3)).heap.size (wr.alloc (.cells #[.int .i64 (b : Int)] 3)) w2 by obtain ⟨nq, rfl⟩ := hd; exact pw_below_drewN (Below.refl _ _) nq)
         clear hd
         have HA2 := Aside0.mk (blk_below HBA2.out HB2.out)
         have HBc2 := Aside0.mk (blk_below HBBb.out HB2.out)
         have HO2 := Aside0.mk (Kd.R_below (Kd.R_alloc HOb.out (.cells #[.int .i64 (b : Int)] 3)) HB2.out)
         have HBw := Aside0.mk (below_step (below_alloc HBb.out (.cells #[.int .i64 (b : Int)] 3)) HB2.out)
         have hcA : w2.cell? ⟨wo.heap.size, 0, none⟩ = some (.int .i64 (a : Int)) := (blk_cell HA2.out 0).trans rfl
         have hcB : w2.cell? ⟨wr.heap.size, 0, none⟩ = some (.int .i64 (b : Int)) := (blk_cell HBc2.out 0).trans rfl
         have hq := HQ.out
         obtain ⟨y1, hy1⟩ : ∃ y, y = ou ++ [(⟨(a : Int), (b : Int)⟩ : S69)] := ⟨_, rfl⟩
         have NY := Aside0.mk hy1
         clear hy1
         go_wp2_with (((with_reducible refine gate_builtin (b := .append) (xs := #[.tmp 19, .tmp 23]) rfl ?_); at_builtin; refine Kd.R_append k69 (w0 := w) w.heap.size rfl (.tmp 19) (.tmp 23) 65 69 (.agg #[(.int .i64 0), (.int .i64 0)]) 16 rfl Try.underlying65 impl_sides.info rfl (by decide) (by omega) _ ou (⟨(a : Int), (b : Int)⟩ : S69) [.int .i64 (a : Int), .int .i64 (b : Int)] (fun _ => True) (fun _ => False) rfl rfl ?aP (fun _ hk => hk.elim) ?aF ?aO ?aB ?aS ?aL ?_; (case aP => exact k69_mkM _ _ _ (⟨(a : Int), (b : Int)⟩ : S69)); (case aB => exact (by repeat (first | (with_reducible first | exact HBw.out | apply below_alloc | apply pw_below_drewN | apply below_drew1) | exact HBw.out))); (case aF => exact (fun _ _ => trivial)); (case aO => exact (by (with_reducible repeat (first | apply Kd.R_alloc | apply Kd.R_drewN | apply Kd.R_drew)); exact HO2.out)); (case aS => exact (below_size (by repeat (first | (with_reducible first | exact HBw.out | apply below_alloc | apply pw_below_drewN | apply below_drew1) | exact HBw.out)))); (case aL => have := HLb.out; omega); intro v3 w3 ho hb hg hat; rw [← NY.out] at ho; have n0_ := Aside0.mk ho; have n1_ := Aside0.mk hb; have n2_ := Aside0.mk (blk_grown (g := wo.heap.size) (o := .cells #[.int .i64 (a : Int)] 3 (0, 0)) (by (with_reducible repeat (first | refine blk_drewN ?_ _ | refine blk_drew ?_ | refine blk_alloc ?_ _)); exact HA2.out) hg (Kd.R_ne HO2.out HA2.out (by decide))); clear ho hb hg hat))
         go_roundw
         case rel => exact ⟨b + 1, y1, by go_num, ⟨by omega⟩, ⟨by rw [NY.out, ← HF4.out]; simp⟩, ⟨by have := HLb.out; rw [NY.out, List.length_append, List.length_singleton]; omega⟩, n0_, n1_, n2_⟩
         case measure => simp [intOf]; omega
        ·rw [if_neg hq, List.nil_append] at HF4
         have HQ := Aside0.mk (Bool.eq_false_iff.mpr hq)
         clear hq
         go_wp2_with fail
         refine HCon.out.mono ?_
         rintro e w2 ⟨rfl, hd⟩
         have HB2 := Aside0.mk (show Below (wr.alloc (.cells #[.int .i64 (b : Int)] 3)).heap.size (wr.alloc (.cells #[.int .i64 (b : Int)] 3)) w2 by obtain ⟨nq, rfl⟩ := hd; exact pw_below_drewN (Below.refl _ _) nq)
         clear hd
         have HA2 := Aside0.mk (blk_below HBA2.out HB2.out)
         have HO2 := Aside0.mk (Kd.R_below (Kd.R_alloc HOb.out (.cells #[.int .i64 (b : Int)] 3)) HB2.out)
         have HBw := Aside0.mk (below_step (below_alloc HBb.out (.cells #[.int .i64 (b : Int)] 3)) HB2.out)
         have hq := HQ.out
         go_wp2
         go_roundw
         case rel => exact ⟨b + 1, ou, by go_num, ⟨by omega⟩, ⟨HF4.out⟩, ⟨by have := HLb.out; omega⟩, HO2, HBw, HA2⟩
         case measure => simp [intOf]; omega
       ·have hj := HJb.out
        have e : b = n := by omega
        have hJ2 := HFb.out
        rw [e, Nat.sub_self] at hJ2
        simp only [sIn, List.nil_append] at hJ2
        have HJ2 := Aside0.mk hJ2
        clear hJ2 HFb hj e
        go_wp2
        go_roundw
        case rel => exact ⟨a + 1, ou, by go_num, ⟨by omega⟩, ⟨by rw [HS2.out]; exact HJ2.out⟩, ⟨by have := HLb.out; have := HJb.out; omega⟩, HOb, HBb⟩
        case measure => simp [intOf]; omega
     ·have hj := HJ.out
      have e : a = n := by omega
      have hJ2 := HJF.out
      rw [e, Nat.sub_self] at hJ2
      simp only [sOut, List.append_nil] at hJ2
      have HJ2 := Aside0.mk hJ2
      clear hJ2 HJF hj e
      go_wp2
      go_ret
      exact ⟨_, rfl, by rw [← HJ2.out]; exact HO.out, HB.out⟩
   ·rw [if_pos h1, if_pos h2, if_neg h3] at h
    cases h
  ·rw [if_pos h1, if_neg h2] at h
   cases h
 ·rw [if_neg h1] at h
  cases h

/-! ### impl_Flood_sides: function 47 -/
def impl_Flood_sides.f (l0_0 : List (List Int)) (l0_1 : List (List Int)) (l0_2 : List (List Int)) (l0_3 : List (S61)) : Option ((List (S69))) := (impl_sides.f (l0_1.length : Int) l0_0).bind fun t293 => (some t293)
set_option maxHeartbeats 8000000 in
set_option maxRecDepth 100000 in
theorem impl_Flood_sides.calls (A0_0 : Option Addr) (c0_0 : Nat) (l0_0 : List (List Int)) (A0_1 : Option Addr) (c0_1 : Nat) (l0_1 : List (List Int)) (A0_2 : Option Addr) (c0_2 : Nat) (l0_2 : List (List Int)) (A0_3 : Option Addr) (c0_3 : Nat) (l0_3 : List (S61)) (r : List (S69)) (w : World) (hr0_0 : Kd.C (Kd.slice 3 (Kd.int .i64)) w A0_0 l0_0.length l0_0) (hc0_0 : l0_0.length ≤ c0_0) (hr0_1 : Kd.C (Kd.slice 3 (Kd.int .i64)) w A0_1 l0_1.length l0_1) (hc0_1 : l0_1.length ≤ c0_1) (hr0_2 : Kd.C (Kd.slice 3 (Kd.int .i64)) w A0_2 l0_2.length l0_2) (hc0_2 : l0_2.length ≤ c0_2) (hr0_3 : Kd.C k61 w A0_3 l0_3.length l0_3) (hc0_3 : l0_3.length ≤ c0_3) (h : impl_Flood_sides.f l0_0 l0_1 l0_2 l0_3 = some r) :
  Calls Try.prog 47 #[.agg #[.slice A0_0 l0_0.length c0_0, .slice A0_1 l0_1.length c0_1, .slice A0_2 l0_2.length c0_2, .slice A0_3 l0_3.length c0_3]] w fun e w' => ∃ v0_ : Value, e = .returned (v0_) ∧ Kd.R k69 69 w' w.heap.size (fun _ => True) v0_ r ∧ Below w.heap.size w w' := by
 have hu26 := Try.underlying26
 have HR0_0 := Aside0.mk hr0_0
 have HC0_0 := Aside0.mk hc0_0
 clear hr0_0 hc0_0
 have HR0_1 := Aside0.mk hr0_1
 have HC0_1 := Aside0.mk hc0_1
 clear hr0_1 hc0_1
 have HR0_2 := Aside0.mk hr0_2
 have HC0_2 := Aside0.mk hc0_2
 clear hr0_2 hc0_2
 have HR0_3 := Aside0.mk hr0_3
 have HC0_3 := Aside0.mk hc0_3
 clear hr0_3 hc0_3
 have HB := Aside0.mk (Below.refl w.heap.size w)
 have H : ((impl_sides.f (l0_1.length : Int) l0_0).bind fun t293 => (some t293)) = some r := h
 clear h
 replace H := Option.bind_eq_some_iff.mp H
 obtain ⟨t293, A20, H⟩ := H
 replace H : (some t293) = some r := H
 have A2 := Aside0.mk A20
 clear A20
 obtain rfl := Option.some.inj H
 go_enter Try.func47, Try.ntmps47
 go_wp2_with (first | ((with_reducible refine gate_dst (N := 1) rfl ?_); refine box_event ?hg (N := 1) ?hd (cs := #[.slice A0_0 l0_0.length c0_0, .slice A0_1 l0_1.length c0_1, .slice A0_2 l0_2.length c0_2, .slice A0_3 l0_3.length c0_3]) (t := 26) ?hr ?_; (case hd => rfl); (case hg => rfl); (case hr => first | (go_simp; done) | (go_simp; rfl)); intro gb292 hg w3 hbox hb; have n0_ := Aside0.mk (below_step (by repeat (first | (with_reducible first | exact HB.out | apply below_alloc | apply pw_below_drewN | apply below_drew1) | exact HB.out)) hb); have n1_ := Aside0.mk (hbox); have n2_ := Aside0.mk ((by rw [hg]; exact (below_size (by repeat (first | (with_reducible first | exact HB.out | apply below_alloc | apply pw_below_drewN | apply below_drew1) | exact HB.out))) : w.heap.size ≤ gb292)); have n3_ := Aside0.mk ((by rw [hg]; exact (below_size (by repeat (first | (with_reducible first | exact HB.out | apply below_alloc | apply pw_below_drewN | apply below_drew1) | exact HB.out))) : w.heap.size ≤ gb292)); clear HB; have HB := n0_; have BK292 := n1_; have GW292 := n2_; have GE292 := n3_; clear n0_ n1_ n2_ n3_; clear hb hbox hg; have hcz4_0 : w3.cell? ⟨gb292, 0, none⟩ = some (.slice A0_0 l0_0.length c0_0) := (blk_cell BK292.out 0).trans rfl; have hcz4_1 : w3.cell? ⟨gb292, 1, none⟩ = some (.slice A0_1 l0_1.length c0_1) := (blk_cell BK292.out 1).trans rfl; have hcz4_2 : w3.cell? ⟨gb292, 2, none⟩ = some (.slice A0_2 l0_2.length c0_2) := (blk_cell BK292.out 2).trans rfl; have hcz4_3 : w3.cell? ⟨gb292, 3, none⟩ = some (.slice A0_3 l0_3.length c0_3) := (blk_cell BK292.out 3).trans rfl; have hfz4_0 := blk_frozen BK292.out 0; have hfz4_1 := blk_frozen BK292.out 1; have hfz4_2 := blk_frozen BK292.out 2; have hfz4_3 := blk_frozen BK292.out 3) | ((with_reducible refine gate_callee (f := 55) rfl ?_); refine goesL_ (some 8) rfl rfl Try.func55 (by kernel_rfl) rfl #[.int .i64 (l0_1.length : Int), .slice A0_0 l0_0.length c0_0] rfl (by (try simp only [List.map_toArray, List.map_cons, List.map_nil]); first | done | rfl | (simp only [List.length_drop, List.length_take]; rfl)) ?_; (with_reducible refine (impl_sides.calls (l0_1.length : Int) _ _ l0_0 t293 _ ?side1 ?side2 A2.out).mono ?_); (case side1 => repeat (first | exact (Kd.C_below HR0_0.out HB.out) | (with_reducible refine Kd.C_alloc ?_ _) | (with_reducible refine Kd.C_drewN ?_ _) | (with_reducible refine Kd.C_drew ?_))); (case side2 => exact HC0_0.out); rintro e w5 ⟨v294, rfl, ho0, hb⟩; refine ⟨_, rfl, ?_⟩; have n0_ := Aside0.mk (Kd.R_lower ho0 (below_size (by repeat (first | (with_reducible first | exact HB.out | apply below_alloc | apply pw_below_drewN | apply below_drew1 | refine below_set ?_ GE292.out) | exact HB.out)))); have n1_ := Aside0.mk (blk_below (g := gb292) (o := .cells #[.slice A0_0 l0_0.length c0_0, .slice A0_1 l0_1.length c0_1, .slice A0_2 l0_2.length c0_2, .slice A0_3 l0_3.length c0_3] 26 (0, 0)) (by (with_reducible repeat (first | refine blk_drewN ?_ _ | refine blk_drew ?_ | refine blk_alloc ?_ _)); exact BK292.out) hb); have n2_ := Aside0.mk (below_step (by repeat (first | (with_reducible first | exact HB.out | apply below_alloc | apply pw_below_drewN | apply below_drew1 | refine below_set ?_ GE292.out) | exact HB.out)) hb); clear BK292; clear HB; have HO295 := n0_; have BK292 := n1_; have HB := n2_; clear n0_ n1_ n2_; (try clear hb); (try clear hb2); (try clear hk); (try clear hi); (try clear ho0)))
 go_ret
 exact ⟨_, by first | rfl | (simp [errW_none, errW_some] <;> rfl) | (simp [*, errW_none, errW_some] <;> rfl), by (with_reducible repeat (first | apply Kd.R_alloc | apply Kd.R_drewN | apply Kd.R_drew)); exact HO295.out, by repeat (first | (with_reducible first | exact HB.out | apply below_alloc | apply pw_below_drewN | apply below_drew1 | refine below_set ?_ GE292.out) | exact HB.out)⟩

/-! ### impl_side_60: function 60 -/
def impl_side_60.l0 : Nat → List (S69) → Int → Int → Int → Int → Option (Int)
 | 0, _, _, _, _, _ => none
 | k + 1, x0, x7, x8, x297000, x297001 => if x8 < x7 then (if 0 ≤ x8 then (if x8 < (x0.length : Int) then (if (x297000 == ((rd_T69 x0 x8).f0) && (x297001 == ((rd_T69 x0 x8).f1))) = true then (some x8) else (impl_side_60.l0 k x0 x7 (wrap64 (x8 + 1)) x297000 x297001)) else (none)) else (none)) else (some (-1))
def impl_side_60.f (k : Nat) (l0 : List (S69)) (a1_0 : Int) (a1_1 : Int) : Option (Int) := impl_side_60.l0 k l0 (l0.length : Int) 0 a1_0 a1_1
theorem impl_side_60.mono_l : ∀ k, (∀ y0 y1 y2 y3 y4, LeO (impl_side_60.l0 k y0 y1 y2 y3 y4) (impl_side_60.l0 (k + 1) y0 y1 y2 y3 y4))
 | 0 => fun _ _ _ _ _ r h => by simp [impl_side_60.l0] at h
 | k + 1 => by
  have ih0 := impl_side_60.mono_l k
  ·intro y0 y1 y2 y3 y4
   unfold impl_side_60.l0
   repeat' first
   | (with_reducible exact ih0 _ _ _ _ _)
   | (with_reducible exact LeO.refl _)
   | (with_reducible exact LeO.none _)
   | (with_reducible refine LeO.ite ?_ ?_)
   | (with_reducible refine LeO.bind ?_ (fun _ => ?_))
   | exact ih0 _ _ _ _ _
   | exact LeO.none _
   | refine LeO.ite ?_ ?_
   | refine LeO.bind ?_ (fun _ => ?_)
theorem impl_side_60.mono : ∀ a0 a1 a2 k, LeO (impl_side_60.f k a0 a1 a2) (impl_side_60.f (k + 1) a0 a1 a2) := by
 intro a0 a1 a2 k
 have ih0 := impl_side_60.mono_l k
 unfold impl_side_60.f
 repeat' first
   | (with_reducible exact ih0 _ _ _ _ _)
   | (with_reducible exact LeO.refl _)
   | (with_reducible exact LeO.none _)
   | (with_reducible refine LeO.ite ?_ ?_)
   | (with_reducible refine LeO.bind ?_ (fun _ => ?_))
   | exact ih0 _ _ _ _ _
   | exact LeO.none _
   | refine LeO.ite ?_ ?_
   | refine LeO.bind ?_ (fun _ => ?_)
set_option maxHeartbeats 8000000 in
set_option maxRecDepth 100000 in
theorem impl_side_60.calls (k : Nat) (A0 : Option Addr) (c0 : Nat) (l0 : List (S69)) (a1_0 : Int) (a1_1 : Int) (r : Int) (w : World) (hr0 : Kd.C k69 w A0 l0.length l0) (hc0 : l0.length ≤ c0) (h : impl_side_60.f k l0 a1_0 a1_1 = some r) :
  Calls Try.prog 60 #[.slice A0 l0.length c0, .agg #[.int .i64 a1_0, .int .i64 a1_1]] w fun e w' => e = .returned (.int .i64 r) ∧ Below w.heap.size w w' := by
 have hu69 := Try.underlying69
 have HR0 := Aside0.mk hr0
 have HC0 := Aside0.mk hc0
 clear hr0 hc0
 have HB := Aside0.mk (Below.refl w.heap.size w)
 have H : (impl_side_60.l0 k l0 (l0.length : Int) 0 a1_0 a1_1) = some r := h
 clear h
 have H' := Aside0.mk H
 clear H
 go_enter Try.func60, Try.ntmps60
 go_wp2_with (first | ((with_reducible refine gate_dst (N := 3) rfl ?_); refine box_event ?hg (N := 3) ?hd (cs := #[.int .i64 a1_0, .int .i64 a1_1]) (t := 69) ?hr ?_; (case hd => rfl); (case hg => rfl); (case hr => first | (go_simp; done) | (go_simp; rfl)); intro gb296 hg w3 hbox hb; have n0_ := Aside0.mk (below_step (by repeat (first | (with_reducible first | exact HB.out | apply below_alloc | apply pw_below_drewN | apply below_drew1) | exact HB.out)) hb); have n1_ := Aside0.mk (hbox); have n2_ := Aside0.mk ((by rw [hg]; exact (below_size (by repeat (first | (with_reducible first | exact HB.out | apply below_alloc | apply pw_below_drewN | apply below_drew1) | exact HB.out))) : w.heap.size ≤ gb296)); have n3_ := Aside0.mk ((by rw [hg]; exact (below_size (by repeat (first | (with_reducible first | exact HB.out | apply below_alloc | apply pw_below_drewN | apply below_drew1) | exact HB.out))) : w.heap.size ≤ gb296)); clear HB; have HB := n0_; have BK296 := n1_; have GW296 := n2_; have GE296 := n3_; clear n0_ n1_ n2_ n3_; clear hb hbox hg))
 repeat (go_quiet (first | ((with_reducible refine gate_dst (N := 3) rfl ?_); refine box_event ?hg (N := 3) ?hd (cs := #[.int .i64 a1_0, .int .i64 a1_1]) (t := 69) ?hr ?_; (case hd => rfl); (case hg => rfl); (case hr => first | (go_simp; done) | (go_simp; rfl)); intro gb296 hg w3 hbox hb; have n0_ := Aside0.mk (below_step (by repeat (first | (with_reducible first | exact HB.out | apply below_alloc | apply pw_below_drewN | apply below_drew1) | exact HB.out)) hb); have n1_ := Aside0.mk (hbox); have n2_ := Aside0.mk ((by rw [hg]; exact (below_size (by repeat (first | (with_reducible first | exact HB.out | apply below_alloc | apply pw_below_drewN | apply below_drew1) | exact HB.out))) : w.heap.size ≤ gb296)); have n3_ := Aside0.mk ((by rw [hg]; exact (below_size (by repeat (first | (with_reducible first | exact HB.out | apply below_alloc | apply pw_below_drewN | apply below_drew1) | exact HB.out))) : w.heap.size ≤ gb296)); clear HB; have HB := n0_; have BK296 := n1_; have GW296 := n2_; have GE296 := n3_; clear n0_ n1_ n2_ n3_; clear hb hbox hg)); try go_wp2_with (first | ((with_reducible refine gate_dst (N := 3) rfl ?_); refine box_event ?hg (N := 3) ?hd (cs := #[.int .i64 a1_0, .int .i64 a1_1]) (t := 69) ?hr ?_; (case hd => rfl); (case hg => rfl); (case hr => first | (go_simp; done) | (go_simp; rfl)); intro gb296 hg w3 hbox hb; have n0_ := Aside0.mk (below_step (by repeat (first | (with_reducible first | exact HB.out | apply below_alloc | apply pw_below_drewN | apply below_drew1) | exact HB.out)) hb); have n1_ := Aside0.mk (hbox); have n2_ := Aside0.mk ((by rw [hg]; exact (below_size (by repeat (first | (with_reducible first | exact HB.out | apply below_alloc | apply pw_below_drewN | apply below_drew1) | exact HB.out))) : w.heap.size ≤ gb296)); have n3_ := Aside0.mk ((by rw [hg]; exact (below_size (by repeat (first | (with_reducible first | exact HB.out | apply below_alloc | apply pw_below_drewN | apply below_drew1) | exact HB.out))) : w.heap.size ≤ gb296)); clear HB; have HB := n0_; have BK296 := n1_; have GW296 := n2_; have GE296 := n3_; clear n0_ n1_ n2_ n3_; clear hb hbox hg)))
 go_loopg [8] k (fun kq v8 w' => ∃ (x8_1 : Int), v8 = .int .i64 x8_1 ∧ Aside0 (impl_side_60.l0 kq l0 (l0.length : Int) x8_1 a1_0 a1_1 = some r) ∧ Aside0 (kq ≤ k) ∧ Aside0 (w'.heap[gb296]? = some (.cells #[.int .i64 a1_0, .int .i64 a1_1] 69 (0, 0))) ∧ Aside0 (Below w.heap.size w w'))
 case atStart => exact ⟨(0), (by first | rfl | (simp; done) | (simp [*]; done)), H', ⟨Nat.le_refl _⟩, ⟨by (with_reducible repeat (first | refine blk_drewN ?_ _ | refine blk_drew ?_ | refine blk_alloc ?_ _)); exact BK296.out⟩, ⟨by repeat (first | (with_reducible first | exact HB.out | apply below_alloc | apply pw_below_drewN | apply below_drew1 | refine below_set ?_ GE296.out) | exact HB.out)⟩⟩
 case round =>
  clear H'
  try clear p2
  obtain ⟨x8_1, rfl, HA, HK1, BK296, HB⟩ := hrel
  cases gk with
  | zero => exact absurd HA.out (by simp [impl_side_60.l0])
  | succ k1 =>
   have H := HA.out
   clear HA
   simp only [impl_side_60.l0] at H
   by_cases c4 : x8_1 < (l0.length : Int)
   ·rw [if_pos c4] at H
    have c4b0 : decide (x8_1 < (l0.length : Int)) = true := decide_eq_true c4
    clear c4
    by_cases c5 : 0 ≤ x8_1
    ·rw [if_pos c5] at H
     have c5b0 : decide (0 ≤ x8_1) = true := decide_eq_true c5
     clear c5
     by_cases c6 : x8_1 < (l0.length : Int)
     ·rw [if_pos c6] at H
      have c6b0 : decide (x8_1 < (l0.length : Int)) = true := decide_eq_true c6
      clear c6
      by_cases c7 : (a1_0 == ((rd_T69 l0 x8_1).f0) && (a1_1 == ((rd_T69 l0 x8_1).f1))) = true
      ·rw [if_pos c7] at H
       have c7b0 : (a1_0 == ((rd_T69 l0 x8_1).f0) && (a1_1 == ((rd_T69 l0 x8_1).f1))) = true := c7
       (try (have c7b1 : decide (a1_0 = ((rd_T69 l0 x8_1).f0) && (a1_1 == ((rd_T69 l0 x8_1).f1))) = true := by simpa using c7))
       (try (have c7b2 : (a1_0 == ((rd_T69 l0 x8_1).f0) && (a1_1 == ((rd_T69 l0 x8_1).f1))) = true := by simpa using c7))
       clear c7
       obtain rfl := Option.some.inj H
       have hcz8_0 : wr.cell? ⟨gb296, 0, none⟩ = some (.int .i64 a1_0) := (blk_cell BK296.out 0).trans rfl
       have hcz8_1 : wr.cell? ⟨gb296, 1, none⟩ = some (.int .i64 a1_1) := (blk_cell BK296.out 1).trans rfl
       have hfz8_0 := blk_frozen BK296.out 0
       have hfz8_1 := blk_frozen BK296.out 1
       have p297 : 0 ≤ (x8_1 : Int) := of_decide_eq_true (by first | (with_reducible assumption) | assumption)
       have q297 : x8_1 < (l0.length : Int) := of_decide_eq_true (by first | (with_reducible assumption) | assumption)
       obtain ⟨ad297, e297, hx297_0, hx297_1⟩ := at_T69 HR0.out x8_1 p297 q297
       cases e297
       replace hx297_0 := (HB.out.cell (World.block_lt_of_cell? w _ hx297_0)).trans hx297_0
       replace hx297_1 := (HB.out.cell (World.block_lt_of_cell? w _ hx297_1)).trans hx297_1
       replace p297 := eq_true p297
       replace q297 := eq_true q297
       go_wp2
       repeat (go_quiet (fail); try go_wp2)
       go_ret
       exact ⟨by first | rfl | (simp [errW_none, errW_some] <;> rfl) | (simp [*, errW_none, errW_some] <;> rfl), by repeat (first | (with_reducible first | exact HB.out | apply below_alloc | apply pw_below_drewN | apply below_drew1 | refine below_set ?_ GE296.out) | exact HB.out)⟩
      ·rw [if_neg c7] at H
       have c7b0 : (a1_0 == ((rd_T69 l0 x8_1).f0) && (a1_1 == ((rd_T69 l0 x8_1).f1))) = false := by simpa using c7
       (try (have c7b1 : decide (a1_0 = ((rd_T69 l0 x8_1).f0) && (a1_1 == ((rd_T69 l0 x8_1).f1))) = false := by simpa using c7))
       (try (have c7b2 : (a1_0 == ((rd_T69 l0 x8_1).f0) && (a1_1 == ((rd_T69 l0 x8_1).f1))) = false := by simpa using c7))
       (try (have c7b3 : ¬ (a1_0 = ((rd_T69 l0 x8_1).f0) && (a1_1 == ((rd_T69 l0 x8_1).f1))) := by simpa using c7))
       clear c7
       have H' := Aside0.mk H
       clear H
       have hcz9_0 : wr.cell? ⟨gb296, 0, none⟩ = some (.int .i64 a1_0) := (blk_cell BK296.out 0).trans rfl
       have hcz9_1 : wr.cell? ⟨gb296, 1, none⟩ = some (.int .i64 a1_1) := (blk_cell BK296.out 1).trans rfl
       have hfz9_0 := blk_frozen BK296.out 0
       have hfz9_1 := blk_frozen BK296.out 1
       have p297 : 0 ≤ (x8_1 : Int) := of_decide_eq_true (by first | (with_reducible assumption) | assumption)
       have q297 : x8_1 < (l0.length : Int) := of_decide_eq_true (by first | (with_reducible assumption) | assumption)
       obtain ⟨ad297, e297, hx297_0, hx297_1⟩ := at_T69 HR0.out x8_1 p297 q297
       cases e297
       replace hx297_0 := (HB.out.cell (World.block_lt_of_cell? w _ hx297_0)).trans hx297_0
       replace hx297_1 := (HB.out.cell (World.block_lt_of_cell? w _ hx297_1)).trans hx297_1
       replace p297 := eq_true p297
       replace q297 := eq_true q297
       go_wp2
       repeat (go_quiet (fail); try go_wp2)
       go_roundg k1
       case measure => have := HK1.out; omega
       case rel => exact ⟨(wrap64 (x8_1 + 1)), (by first | rfl | (simp; done) | (simp [*]; done)), H', ⟨by have := HK1.out; omega⟩, ⟨by (with_reducible repeat (first | refine blk_drewN ?_ _ | refine blk_drew ?_ | refine blk_alloc ?_ _)); exact BK296.out⟩, ⟨by repeat (first | (with_reducible first | exact HB.out | apply below_alloc | apply pw_below_drewN | apply below_drew1 | refine below_set ?_ GE296.out) | exact HB.out)⟩⟩
     ·rw [if_neg c6] at H
      exact absurd H (by simp)
    ·rw [if_neg c5] at H
     exact absurd H (by simp)
   ·rw [if_neg c4] at H
    have c4b0 : decide (x8_1 < (l0.length : Int)) = false := decide_eq_false c4
    clear c4
    obtain rfl := Option.some.inj H
    go_wp2
    repeat (go_quiet (fail); try go_wp2)
    go_ret
    exact ⟨by first | rfl | (simp [errW_none, errW_some] <;> rfl) | (simp [*, errW_none, errW_some] <;> rfl), by repeat (first | (with_reducible first | exact HB.out | apply below_alloc | apply pw_below_drewN | apply below_drew1 | refine below_set ?_ GE296.out) | exact HB.out)⟩

/-! ### impl_side_48: function 48 -/
def impl_side_48.f (k : Nat) (l0 : List (S69)) (a1_0 : Int) (a1_1 : Int) : Option (Bool) := (impl_side_60.f k l0 a1_0 a1_1).bind fun t299 => (some (decide (t299 ≥ 0)))
theorem impl_side_48.mono : ∀ a0 a1 a2 k, LeO (impl_side_48.f k a0 a1 a2) (impl_side_48.f (k + 1) a0 a1 a2) := by
 intro a0 a1 a2 k
 unfold impl_side_48.f
 repeat' first
   | (with_reducible exact impl_side_60.mono _ _ _ _)
   | (with_reducible exact LeO.refl _)
   | (with_reducible exact LeO.none _)
   | (with_reducible refine LeO.ite ?_ ?_)
   | (with_reducible refine LeO.bind ?_ (fun _ => ?_))
   | exact impl_side_60.mono _ _ _ _
   | exact LeO.none _
   | refine LeO.ite ?_ ?_
   | refine LeO.bind ?_ (fun _ => ?_)
set_option maxHeartbeats 8000000 in
set_option maxRecDepth 100000 in
theorem impl_side_48.calls (k : Nat) (A0 : Option Addr) (c0 : Nat) (l0 : List (S69)) (a1_0 : Int) (a1_1 : Int) (r : Bool) (w : World) (hr0 : Kd.C k69 w A0 l0.length l0) (hc0 : l0.length ≤ c0) (h : impl_side_48.f k l0 a1_0 a1_1 = some r) :
  Calls Try.prog 48 #[.slice A0 l0.length c0, .agg #[.int .i64 a1_0, .int .i64 a1_1]] w fun e w' => e = .returned (.bool r) ∧ Below w.heap.size w w' := by
 have hu69 := Try.underlying69
 have HR0 := Aside0.mk hr0
 have HC0 := Aside0.mk hc0
 clear hr0 hc0
 have HB := Aside0.mk (Below.refl w.heap.size w)
 have H : ((impl_side_60.f k l0 a1_0 a1_1).bind fun t299 => (some (decide (t299 ≥ 0)))) = some r := h
 clear h
 replace H := Option.bind_eq_some_iff.mp H
 obtain ⟨t299, A30, H⟩ := H
 replace H : (some (decide (t299 ≥ 0))) = some r := H
 have A3 := Aside0.mk A30
 clear A30
 obtain rfl := Option.some.inj H
 go_enter Try.func48, Try.ntmps48
 go_wp2_with (first | ((with_reducible refine gate_dst (N := 3) rfl ?_); refine box_event ?hg (N := 3) ?hd (cs := #[.int .i64 a1_0, .int .i64 a1_1]) (t := 69) ?hr ?_; (case hd => rfl); (case hg => rfl); (case hr => first | (go_simp; done) | (go_simp; rfl)); intro gb298 hg w4 hbox hb; have n0_ := Aside0.mk (below_step (by repeat (first | (with_reducible first | exact HB.out | apply below_alloc | apply pw_below_drewN | apply below_drew1) | exact HB.out)) hb); have n1_ := Aside0.mk (hbox); have n2_ := Aside0.mk ((by rw [hg]; exact (below_size (by repeat (first | (with_reducible first | exact HB.out | apply below_alloc | apply pw_below_drewN | apply below_drew1) | exact HB.out))) : w.heap.size ≤ gb298)); have n3_ := Aside0.mk ((by rw [hg]; exact (below_size (by repeat (first | (with_reducible first | exact HB.out | apply below_alloc | apply pw_below_drewN | apply below_drew1) | exact HB.out))) : w.heap.size ≤ gb298)); clear HB; have HB := n0_; have BK298 := n1_; have GW298 := n2_; have GE298 := n3_; clear n0_ n1_ n2_ n3_; clear hb hbox hg; have hcz5_0 : w4.cell? ⟨gb298, 0, none⟩ = some (.int .i64 a1_0) := (blk_cell BK298.out 0).trans rfl; have hcz5_1 : w4.cell? ⟨gb298, 1, none⟩ = some (.int .i64 a1_1) := (blk_cell BK298.out 1).trans rfl; have hfz5_0 := blk_frozen BK298.out 0; have hfz5_1 := blk_frozen BK298.out 1) | ((with_reducible refine gate_callee (f := 60) rfl ?_); refine goesL_ (some 7) rfl rfl Try.func60 (by kernel_rfl) rfl #[.slice A0 l0.length c0, .agg #[.int .i64 a1_0, .int .i64 a1_1]] rfl (by (try simp only [List.map_toArray, List.map_cons, List.map_nil]); first | done | rfl | (simp only [List.length_drop, List.length_take]; rfl)) ?_; (with_reducible refine (impl_side_60.calls k _ _ l0 a1_0 a1_1 t299 _ ?side1 ?side2 A3.out).mono ?_); (case side1 => repeat (first | exact (Kd.C_below HR0.out HB.out) | (with_reducible refine Kd.C_alloc ?_ _) | (with_reducible refine Kd.C_drewN ?_ _) | (with_reducible refine Kd.C_drew ?_))); (case side2 => exact HC0.out); rintro e w6 ⟨rfl, hb⟩; refine ⟨_, rfl, ?_⟩; have n0_ := Aside0.mk (blk_below (g := gb298) (o := .cells #[.int .i64 a1_0, .int .i64 a1_1] 69 (0, 0)) (by (with_reducible repeat (first | refine blk_drewN ?_ _ | refine blk_drew ?_ | refine blk_alloc ?_ _)); exact BK298.out) hb); have n1_ := Aside0.mk (below_step (by repeat (first | (with_reducible first | exact HB.out | apply below_alloc | apply pw_below_drewN | apply below_drew1 | refine below_set ?_ GE298.out) | exact HB.out)) hb); clear BK298; clear HB; have BK298 := n0_; have HB := n1_; clear n0_ n1_; (try clear hb); (try clear hb2); (try clear hk); (try clear hi)))
 go_ret
 exact ⟨by first | rfl | (simp [errW_none, errW_some] <;> rfl) | (simp [*, errW_none, errW_some] <;> rfl), by repeat (first | (with_reducible first | exact HB.out | apply below_alloc | apply pw_below_drewN | apply below_drew1 | refine below_set ?_ GE298.out) | exact HB.out)⟩

end Go.Proofs.Ytdbnjjpkpaifcaa.PFnExactAllSame
