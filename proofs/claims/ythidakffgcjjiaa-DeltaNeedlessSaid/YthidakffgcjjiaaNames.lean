/- The walks of package name: what its functions return. -/
import Derived.Test.YthidakffgcjjiaaBase
import Derived.Test.YthidakffgcjjiaaEqs
import Derived.Test.YthidakffgcjjiaaSoft
namespace Go.Proofs.Ythidakffgcjjiaa
open Go.RowKit Go.Sort Go.Shelf

set_option maxHeartbeats 400000 in
theorem letter_any (c : UInt8) (w : World) :
    Calls Try.prog 120 #[U8 c] w fun e w' => e = .returned (.bool (isLetter c)) ∧ w = w' := by
  go_enter Try.func120, Try.ntmps120
  go_wp2
  all_goals (go_ret; exact ⟨retb (by grind [isLetter]), rfl⟩)

set_option maxHeartbeats 400000 in
theorem other_any (c : UInt8) (w : World) :
    Calls Try.prog 122 #[U8 c] w fun e w' => e = .returned (.bool (isOther c)) ∧ w = w' := by
  cases h : isLetter c <;> have H := Lib.hid h <;> clear h
  all_goals
    go_enter Try.func122, Try.ntmps122
    go_wp2_with (go_at_call 120; refine (letter_any _ _).mono ?_; rintro e w' ⟨rfl, rfl⟩; rw [H.out])
    all_goals (go_ret; refine ⟨retb ?_, rfl⟩)
    all_goals (have h := H.out; clear H; grind [isOther])

set_option maxHeartbeats 400000 in
theorem nul_any (c : UInt8) (w : World) :
    Calls Try.prog 123 #[U8 c] w fun e w' => e = .returned (.bool (isNul c)) ∧ w = w' := by
  go_enter Try.func123, Try.ntmps123
  go_wp2
  all_goals (go_ret; exact ⟨retb (by grind [isNul]), rfl⟩)

set_option maxHeartbeats 400000 in
theorem all_any (g : Nat) (p : UInt8 → Bool) (eg : ∀ args w, (callFunc g args).run Try.prog w = .ok (.enter g args) w)
    (hp : ∀ (c : UInt8) (w : World), Calls Try.prog g #[U8 c] w fun e w' => e = .returned (.bool (p c)) ∧ w = w')
    (b off : Nat) (l : List UInt8) (len cap : Nat) (w : World) (hlen : l.length = len) (hl : len ≤ 8) (hc : ∀ i, i < len → w.cell? ⟨b, off + i, none⟩ = some (U8 (l.getD i 0))) :
    Calls Try.prog 121 #[.slice (some ⟨b, off, none⟩) len cap, .func (.func g) #[] #[]] w fun e w' => e = .returned (.bool (l.all p)) ∧ w = w' := by
  have HP := Lib.hid hp; clear hp
  have HL := Lib.hid hlen; clear hlen
  go_enter Try.func121, Try.ntmps121
  go_wp2
  go_loop [9] (fun i => ∃ k : Nat, k ≤ len ∧ i = .int .i64 k ∧ (l.take k).all p = true) (fun i => len - (intOf i).toNat)
  case atStart => exact ⟨0, Nat.zero_le _, rfl, rfl⟩
  case round =>
    obtain ⟨k, hk, rfl, hall⟩ := hrel
    have HA := Lib.hid hall; clear hall
    by_cases hlt : k < len
    · have hcell := hc k hlt
      clear hc
      generalize hcv : l.getD k 0 = c at hcell
      have HC := Lib.hid hcv; clear hcv
      cases hpc : p c <;> have HPC := Lib.hid hpc <;> clear hpc
      all_goals go_wp2_with (go_at_fn g; refine (HP.out _ _).mono ?_; rintro e w' ⟨rfl, rfl⟩; rw [HPC.out])
      · go_ret
        refine ⟨retb ?_, rfl⟩
        have h1 := HL.out; have h2 := HC.out; have h3 := HPC.out
        symm
        rw [List.all_eq_false]
        refine ⟨c, ?_, by simp [h3]⟩
        rw [← h2, getD_of_lt l k 0 (by omega)]
        exact List.getElem_mem _
      · go_round
        case rel =>
          refine ⟨k + 1, by omega, by go_num, ?_⟩
          have h1 := HL.out; have h2 := HC.out; have h3 := HPC.out
          rw [List.take_succ_eq_append_getElem (by omega), List.all_append, HA.out]
          rw [getD_of_lt l k 0 (by omega)] at h2
          simp [h2, h3]
        case measure => simp [intOf]; omega
    · go_wp2
      go_ret
      exact ⟨retb (by have := HA.out; have h1 := HL.out; rw [List.take_of_length_le (by omega)] at this; exact this.symm), rfl⟩

theorem all_take_succ {l : List UInt8} {p : UInt8 → Bool} {k : Nat} {c : UInt8} (hk : k < l.length) (hc : l.getD k 0 = c) (h : (l.take k).all p = true) (hp : p c = true) : (l.take (k + 1)).all p = true := by
  rw [getD_of_lt l k 0 hk] at hc
  rw [List.take_succ_eq_append_getElem hk, List.all_append, h, hc]
  simp [hp]
theorem Nm.size_of (n : Nm) (k : Nat) (hk : k < 8) (h : (n.list.take k).all (fun c => !isNul c) = true) (c : UInt8) (hc : n.list.getD k 0 = c) (hz : isNul c = true) : n.size = k := by
  unfold Nm.size
  subst hc
  obtain ⟨b0, b1, b2, b3, b4, b5, b6, b7⟩ := n
  have hk8 : k = 0 ∨ k = 1 ∨ k = 2 ∨ k = 3 ∨ k = 4 ∨ k = 5 ∨ k = 6 ∨ k = 7 := by omega
  rcases hk8 with rfl | rfl | rfl | rfl | rfl | rfl | rfl | rfl <;> simp_all [Nm.list]
theorem Nm.size_eight (n : Nm) (h : (n.list.take 8).all (fun c => !isNul c) = true) : n.size = 8 := by
  simp_all [Nm.size, Nm.list]

theorem isNul_int (c : UInt8) : ((c.toNat : Int) == 0) = isNul c := by
  unfold isNul
  rw [Bool.eq_iff_iff]; simp

set_option maxHeartbeats 1000000 in
theorem size_any (n : Nm) (w : World) :
    Calls Try.prog 119 #[.agg n.enc] w fun e w' => e = .returned (.int .i64 n.size) ∧ Ext w w' := by
  go_enter Try.func119, Try.ntmps119
  go_wp2
  go_loop [6] (fun i => ∃ k : Nat, k ≤ 8 ∧ i = .int .i64 k ∧ (n.list.take k).all (fun c => !isNul c) = true) (fun i => 8 - (intOf i).toNat)
  case atStart => exact ⟨0, Nat.zero_le _, rfl, rfl⟩
  case round =>
    obtain ⟨k, hk, rfl, hall⟩ := hrel
    have HA := Lib.hid hall; clear hall
    by_cases hlt : k < 8
    · obtain ⟨c, hc⟩ : ∃ c, n.list.getD k 0 = c := ⟨_, rfl⟩
      have hi := idx31 n k c hlt hc
      have HC := Lib.hid hc; clear hc
      have hz0 := isNul_int c
      cases hz : isNul c <;> rw [hz] at hz0 <;> have HZ := Lib.hid hz <;> clear hz
      · go_wp2
        go_round
        case rel => exact ⟨k + 1, by omega, by go_num, all_take_succ hlt HC.out HA.out (by rw [HZ.out]; rfl)⟩
        case measure => simp [intOf]; omega
      · go_wp2
        go_ret
        exact ⟨reti (by rw [n.size_of k hlt HA.out c HC.out HZ.out]), (Ext.refl w).alloc _⟩
    · obtain rfl : k = 8 := by omega
      go_wp2
      go_ret
      exact ⟨reti (by rw [n.size_eight HA.out]; rfl), (Ext.refl w).alloc _⟩

theorem Nm.numTo_succ (n : Nm) (k : Nat) (h : k < 8) : numOf (n.list.take (k + 1)) = numOf (n.list.take k) * 256 + (n.list.getD k 0).toNat := by
  have hl : n.list.length = 8 := rfl
  rw [List.take_succ_eq_append_getElem (by omega), getD_of_lt _ _ _ (by omega), numOf, List.foldl_append]
  rfl
theorem Nm.numTo_lt (n : Nm) (k : Nat) (h : k ≤ 7) : numOf (n.list.take k) * 256 + 255 < 18446744073709551616 := by
  have h1 := numOf_lt (n.list.take k)
  have hl : (n.list.take k).length = k := by simp [Nm.list]; omega
  rw [hl] at h1
  have h2 : 256 ^ k ≤ 256 ^ 7 := Nat.pow_le_pow_right (by omega) h
  omega
theorem Nm.num_step (n : Nm) (k : Nat) (c : UInt8) (hk : k < 8) (hc : n.list.getD k 0 = c) :
    Value.int .u64 (bits .or .u64 (IntKind.u64.wrap ((numOf (n.list.take k) : Nat) * 256)) (IntKind.u64.wrap (c.toNat : Int))) = .int .u64 (numOf (n.list.take (k + 1))) := by
  have h1 := n.numTo_lt k (by omega)
  have h2 := c.toNat_lt
  rw [or_shift8 _ _ h2 (by omega), n.numTo_succ k hk, hc]

set_option maxHeartbeats 1000000 in
theorem number_any (n : Nm) (w : World) :
    Calls Try.prog 131 #[.agg n.enc] w fun e w' => e = .returned (.int .u64 n.num) ∧ Ext w w' := by
  go_enter Try.func131, Try.ntmps131
  go_wp2
  go_loop [6, 2] (fun i x => ∃ k : Nat, k ≤ 8 ∧ i = .int .i64 k ∧ x = .int .u64 (numOf (n.list.take k))) (fun i _ => 8 - (intOf i).toNat)
  case atStart => exact ⟨0, Nat.zero_le _, rfl, rfl⟩
  case round =>
    obtain ⟨k, hk, rfl, rfl⟩ := hrel
    by_cases hlt : k < 8
    · obtain ⟨c, hc⟩ : ∃ c, n.list.getD k 0 = c := ⟨_, rfl⟩
      have hi := idx31 n k c hlt hc
      have HC := Lib.hid hc; clear hc
      go_wp2
      go_round
      case rel => exact ⟨k + 1, by omega, by go_num, n.num_step k c hlt HC.out⟩
      case measure => simp [intOf]; omega
    · obtain rfl : k = 8 := by omega
      go_wp2
      go_ret
      exact ⟨reti (by simp [Nm.num, Nm.list]), (Ext.refl w).alloc _⟩

theorem Nm.enc_get (n : Nm) (j : Nat) (h : j < 8) : n.enc[j]? = some (U8 (n.list.getD j 0)) := by
  have hk8 : j = 0 ∨ j = 1 ∨ j = 2 ∨ j = 3 ∨ j = 4 ∨ j = 5 ∨ j = 6 ∨ j = 7 := by omega
  rcases hk8 with rfl | rfl | rfl | rfl | rfl | rfl | rfl | rfl <;> rfl
theorem cell_boxed (w : World) (cs : Array Value) (T : TypeId) (j : Nat) : (w.alloc (.cells cs T)).cell? ⟨w.heap.size, j, none⟩ = cs[j]? := by
  unfold World.cell?
  rw [heap_alloc_new]
  rfl
theorem slice31_h (a : Addr) (k : Nat) (hk : k ≤ 8) (w : World) : (Instr.sliceAt 31 (.pointer (some a)) none (some (.int .i64 (k : Int))) none).run Try.prog w = .ok (.slice (some a) k 8) w := by
  rw [run_sliceAt_array_h (P := Try.prog) w 31 a (by kernel_rfl) .i64 k (by omega) (by rw [show Try.prog.arrayLen 31 = 8 from by kernel_rfl]; omega)]
  have hs : (sizeOf (Try.prog.elem 31)).run Try.prog w = .ok 1 w := by kernel_rfl
  rw [hs, show Try.prog.arrayLen 31 = 8 from by kernel_rfl]
  simp [Result.andThen, slicedAt, Addr.add]
theorem slice31_l (a : Addr) (k : Nat) (hk : k ≤ 8) (w : World) : (Instr.sliceAt 31 (.pointer (some a)) (some (.int .i64 (k : Int))) none none).run Try.prog w = .ok (.slice (some (if 8 = k then a else a.add k)) (8 - k) (8 - k)) w := by
  rw [run_sliceAt_array_l (P := Try.prog) w 31 a (by kernel_rfl) .i64 k (by omega) (by rw [show Try.prog.arrayLen 31 = 8 from by kernel_rfl]; omega)]
  have hs : (sizeOf (Try.prog.elem 31)).run Try.prog w = .ok 1 w := by kernel_rfl
  rw [hs, show Try.prog.arrayLen 31 = 8 from by kernel_rfl]
  simp [Result.andThen, slicedAt]
theorem eg122 : ∀ args w, (callFunc 122 args).run Try.prog w = .ok (.enter 122 args) w := enters_of Try.func122 (by kernel_rfl) rfl
theorem eg123 : ∀ args w, (callFunc 123 args).run Try.prog w = .ok (.enter 123 args) w := enters_of Try.func123 (by kernel_rfl) rfl
theorem nmcells (n : Nm) (w : World) (m : Nat) (os : Array Obj) (k : Nat) (i : Nat) (h : k + i < 8) : (grow ((w.alloc (.cells n.enc 31)).drewN m) os).cell? ⟨w.heap.size, k + i, none⟩ = some (U8 ((n.list.drop k).getD i 0)) := by
  rw [cell?_grow _ _ _ (by simp)]
  show (w.alloc (.cells n.enc 31)).cell? _ = _
  rw [cell_boxed, n.enc_get _ h]
  simp [List.getD]

set_option maxRecDepth 100000 in
set_option maxHeartbeats 1000000 in
theorem right84 (n : Nm) (w : World) :
    Calls Try.prog 84 #[.agg n.enc] w fun e w' => e = .returned (.bool n.right) ∧ Ext w w' := by
  have hs8 := n.size_le
  obtain ⟨k, hk⟩ : ∃ k, n.size = k := ⟨_, rfl⟩
  have hk8 : k ≤ 8 := by omega
  have HR : n.right = (isLetter n.b0 && (n.list.take k).all isOther && (n.list.drop k).all isNul) := by rw [Nm.right, hk]
  have hn : n.list.length = 8 := rfl
  have hc1 : ∀ m os i, i < k → (grow ((w.alloc (.cells n.enc 31)).drewN m) os).cell? ⟨w.heap.size, 0 + i, none⟩ = some (U8 ((n.list.take k).getD i 0)) := fun m os i hi => by
    rw [nmcells n w m os 0 i (by omega)]
    simp [List.getD, hi]
  have hc2 : ∀ m os i, i < 8 - k → (grow ((w.alloc (.cells n.enc 31)).drewN m) os).cell? ⟨w.heap.size, k + i, none⟩ = some (U8 ((n.list.drop k).getD i 0)) := fun m os i hi => nmcells n w m os k i (by omega)
  have A1 := fun m os => all_any 122 isOther eg122 other_any w.heap.size 0 (n.list.take k) k 8 _ (by simp [hn]; omega) hk8 (hc1 m os)
  have A2 := fun m os => all_any 123 isNul eg123 nul_any w.heap.size k (n.list.drop k) (8 - k) (8 - k) _ (by simp [hn]) (by omega) (hc2 m os)
  rw [HR]
  have s1 := fun w' => slice31_h ⟨w.heap.size, 0, none⟩ k hk8 w'
  have s2 := fun w' => slice31_l ⟨w.heap.size, 0, none⟩ k hk8 w'
  generalize (n.list.take k).all isOther = bO at *
  generalize hbN : (n.list.drop k).all isNul = bN at *
  have HN : Hid (k = 8 → bN = true) := Lib.hid (fun h => by rw [← hbN, h]; rfl)
  generalize hbL : isLetter n.b0 = bL at *
  have HK := Lib.hid hk; clear hk hc1 hc2 HR hs8 hn hbN
  have B1 := Lib.hid A1; clear A1
  have B2 := Lib.hid A2; clear A2
  have HL := Lib.hid hbL; clear hbL
  cases bL
  · go_enter Try.func84, Try.ntmps84
    go_wp2_with (first | (go_at_call 119; refine (size_any n _).mono ?_; rintro e w' ⟨rfl, m, os, rfl⟩; rw [HK.out]) | (go_at_call 120; refine (letter_any _ _).mono ?_; rintro e w' ⟨rfl, rfl⟩; rw [HL.out]))
    go_ret
    exact ⟨retb (by simp), by repeat (first | exact Ext.refl _ | refine Ext.alloc ?_ _ | refine Ext.grow ?_ _ | refine Ext.drewN ?_ _ | refine Ext.drew ?_)⟩
  · go_enter Try.func84, Try.ntmps84
    go_wp2_with (first | (go_at_call 119; refine (size_any n _).mono ?_; rintro e w' ⟨rfl, m, os, rfl⟩; rw [HK.out]) | (go_at_call 120; refine (letter_any _ _).mono ?_; rintro e w' ⟨rfl, rfl⟩; rw [HL.out]))
    refine (B1.out m os).mono ?_; rintro e w' ⟨rfl, rfl⟩
    cases bO
    · go_wp2
      go_ret
      exact ⟨retb (by simp), by repeat (first | exact Ext.refl _ | refine Ext.alloc ?_ _ | refine Ext.grow ?_ _ | refine Ext.drewN ?_ _ | refine Ext.drew ?_)⟩
    · by_cases h8 : k = 8
      · subst h8
        go_wp2_with fail
        refine (all_any 123 isNul eg123 nul_any w.heap.size 0 [] 0 0 _ rfl (by omega) (fun i hi => by omega)).mono ?_; rintro e w' ⟨rfl, rfl⟩
        go_wp2
        go_ret
        exact ⟨retb (by simp [HN.out trivial]), by repeat (first | exact Ext.refl _ | refine Ext.alloc ?_ _ | refine Ext.grow ?_ _ | refine Ext.drewN ?_ _ | refine Ext.drew ?_)⟩
      · have h8' : ¬ 8 = k := by omega
        go_wp2_with fail
        refine (B2.out m os).mono ?_; rintro e w' ⟨rfl, rfl⟩
        go_wp2
        go_ret
        exact ⟨retb (by simp), by repeat (first | exact Ext.refl _ | refine Ext.alloc ?_ _ | refine Ext.grow ?_ _ | refine Ext.drewN ?_ _ | refine Ext.drew ?_)⟩

theorem some_any (n : Nm) (w : World) :
    Calls Try.prog 135 #[.agg n.enc] w fun e w' => e = .returned (.bool (decide (n ≠ Nm.zero))) ∧ Ext w w' := by
  go_enter Try.func135, Try.ntmps135
  go_wp2
  go_ret
  exact ⟨retb (by simp), (Ext.refl w).alloc _⟩
set_option maxHeartbeats 400000 in
theorem nmless_any (a b : Nm) (w : World) :
    Calls Try.prog 113 #[.agg a.enc, .agg b.enc] w fun e w' => e = .returned (.bool (decide (a.num < b.num))) ∧ Ext w w' := by
  have hm := Try.mixed
  go_enter Try.func113, Try.ntmps113
  go_wp2_with fail
  go_quiet_grown ((go_at_call 131; refine grown_of (number_any _ _)))
  go_wp2
  go_ret
  exact ⟨retb (by simp), by repeat (first | exact Ext.refl _ | refine Ext.alloc ?_ _ | refine Ext.grow ?_ _ | refine Ext.drewN ?_ _ | refine Ext.drew ?_)⟩

end Go.Proofs.Ythidakffgcjjiaa
