
/-
  Contracts: texts of signs, of the reference (spec.l04Quoted, l04Note, Trimmed, l05Name, l05Num, l05Quoted, l05Note, l05Text). Written by program (gen_signg.py).
-/
import Derived.Test.YtpfanhheodiamaaGreatDoorSignG
import Derived.Test.YtpfanhheodiamaaGreatDoorOptions
namespace Go.Proofs.YtpfanhheodiamaaGreatDoor
open Go.RowKit
set_option linter.unusedVariables false
set_option linter.unusedSimpArgs false

theorem still_below {P : Program} {f : FuncId} {args : Array Value} {W : World} {v : Value} (h : Calls P f args W fun e w' => e = .returned v ∧ W = w') : Calls P f args W fun e w' => e = .returned v ∧ Below W.heap.size W w' :=
  h.mono fun e w' ⟨h1, h2⟩ => ⟨h1, by subst h2; exact Below.refl _ _⟩
theorem l01In_is' {a b c : Int} {v : Bool} (h : inB a b c = v) (w : World) : Calls Tryz.prog 20 #[.int .i64 a, .int .i64 b, .int .i64 c] w fun e w' => e = .returned (.bool v) ∧ w = w' := by rw [← h]; exact l01In_b a b c w
theorem drop_get {s : ByteArray} {n : Nat} (h : n < s.size) : s.data.toList.drop n = s[n] :: s.data.toList.drop (n + 1) := by
  rw [List.drop_eq_getElem_cons (by rw [ba_len]; exact h)]
  rfl
def quoK (j r : Nat) : Nat := if r = 0 then 0 else r + j
theorem quoR_end {c : UInt8} {l : List UInt8} (h : c = 39) : quoR (c :: l) = 1 := by unfold quoR; rw [if_pos h]
theorem quoR_bad {c : UInt8} {l : List UInt8} (h : ¬ c = 39) (hp : plainC c = false) : quoR (c :: l) = 0 := by unfold quoR; rw [if_neg h, hp]; rfl
theorem quoR_more {c : UInt8} {l : List UInt8} (j : Nat) (h : ¬ c = 39) (hp : plainC c = true) : quoK j (quoR (c :: l)) = quoK (j + 1) (quoR l) := by
  rw [show quoR (c :: l) = if c = 39 then 1 else if plainC c = true then (if quoR l = 0 then 0 else quoR l + 1) else 0 from rfl, if_neg h, if_pos hp]
  unfold quoK
  by_cases h0 : quoR l = 0
  · rw [if_pos h0, if_pos rfl, if_pos h0]
  · rw [if_neg h0, if_neg (by omega), if_neg h0]; omega
theorem quoN_of {l : List UInt8} {r : Nat} (h : quoR (l.drop 1) = r) : quoN l = if r = 0 then 0 else r + 1 := by unfold quoN; rw [h]
theorem ne_39 {c : UInt8} (h : ¬ c = 39) : ((c.toNat : Int) == 39) = false := by
  rw [beq_eq_false_iff_ne]; intro e; apply h; apply UInt8.toNat_inj.1; show c.toNat = 39; omega
set_option maxHeartbeats 1600000 in
theorem l04Quoted_any (s : ByteArray) (q : Nat) (w : World) (hq : q ≤ s.size) (hs : s.size ≤ 4611686018427387904) :
    Calls Tryz.prog 119 #[.string s, .int .i64 q] w fun e w' => e = .returned (.int .i64 (quoN (s.data.toList.drop q) : Nat)) ∧ w = w' := by
  have hd : (s.data.toList.drop q).drop 1 = s.data.toList.drop (q + 1) := by rw [List.drop_drop]
  have HN := Lib.hid (fun r (h : quoR (s.data.toList.drop (q + 1)) = r) => quoN_of (show quoR ((s.data.toList.drop q).drop 1) = r by rw [hd]; exact h))
  clear hd
  generalize quoN (s.data.toList.drop q) = N at HN ⊢
  go_enter Tryz.func119, Tryz.ntmps119
  go_wp2
  go_loop [5] (fun i => ∃ n : Nat, q + 1 ≤ n ∧ n ≤ s.size + 1 ∧ Hid (quoK (n - (q + 1)) (quoR (s.data.toList.drop n)) = quoR (s.data.toList.drop (q + 1))) ∧ i = .int .i64 n) (fun i => s.size + 1 - (intOf i).toNat)
  case atStart => exact ⟨q + 1, by omega, by omega, (show _ = _ by rw [Nat.sub_self]; unfold quoK; split <;> omega), by go_num⟩
  case round =>
    obtain ⟨n, hn1, hn2, HK, rfl⟩ := hrel
    by_cases hlt : n < s.size
    · by_cases h39 : s[n] = 39
      · have hN : N = n + 1 - q := by
          have h1 := HK.out
          rw [drop_get hlt, quoR_end h39] at h1
          have h2 := HN.out _ h1.symm
          rw [show quoK (n - (q + 1)) 1 = 1 + (n - (q + 1)) by unfold quoK; rw [if_neg (by decide)], if_neg (by omega)] at h2
          omega
        have e39 : ((s[n].toNat : Int) == 39) = true := by rw [h39]; rfl
        have eN : ((n : Int) + 1) - q = (N : Nat) := by omega
        clear HN HK h39 hN
        go_wp2
        go_ret
        exact ⟨ret_int (by omega), rfl⟩
      · have e39 := ne_39 h39
        have HC := Lib.hid (fun (b : Bool) (hb : plainC s[n] = b) (W : World) => show Calls Tryz.prog 153 #[.int .u8 (s[n].toNat : Int)] W fun e w' => e = .returned (.bool b) ∧ W = w' by rw [← hb]; exact specPlain_any _ W)
        cases hp : plainC s[n] with
        | true =>
          have H2 := Lib.hid (HC.out _ hp)
          have HK2 : Hid (quoK (n + 1 - (q + 1)) (quoR (s.data.toList.drop (n + 1))) = quoR (s.data.toList.drop (q + 1))) := by
            show _ = _
            rw [← HK.out, drop_get hlt, quoR_more _ h39 hp, show n + 1 - (q + 1) = n - (q + 1) + 1 by omega]
          clear HC hp HK HN h39
          go_wp2_with (go_at_call 153; refine (H2.out _).mono ?_; rintro e w1 ⟨rfl, rfl⟩)
          go_round
          case rel => exact ⟨n + 1, by omega, by omega, HK2, by go_num⟩
          case measure => simp [intOf]; omega
        | false =>
          have H2 := Lib.hid (HC.out _ hp)
          have hN : N = 0 := by
            have h1 := HK.out
            rw [drop_get hlt, quoR_bad h39 hp] at h1
            have h2 := HN.out _ h1.symm
            unfold quoK at h2
            simpa using h2
          subst hN
          clear HC hp HK HN h39
          go_wp2_with (go_at_call 153; refine (H2.out _).mono ?_; rintro e w1 ⟨rfl, rfl⟩)
          go_ret
          exact ⟨rfl, rfl⟩
    · have hN : N = 0 := by
        have h1 := HK.out
        rw [List.drop_of_length_le (by rw [ba_len]; omega)] at h1
        have h2 := HN.out _ h1.symm
        simpa [quoK, quoR] using h2
      subst hN
      clear HN HK
      go_wp2
      go_ret
      exact ⟨rfl, rfl⟩
theorem runN_at {p : UInt8 → Bool} : ∀ {l : List UInt8} {k : Nat}, (l.take k).all p = true → (∀ (h : k < l.length), p l[k] = false) → k ≤ l.length → runN p l = k := by
  intro l
  induction l with
  | nil => intro k h _ hk; simp at hk; subst hk; rfl
  | cons c l ih =>
    intro k h hc hk
    cases k with
    | zero =>
      have := hc (by simp)
      simp only [List.getElem_cons_zero] at this
      unfold runN; rw [if_neg (by rw [this]; decide)]
    | succ k =>
      simp only [List.take_succ_cons, List.all_cons, Bool.and_eq_true] at h
      unfold runN
      rw [if_pos h.1, ih h.2 (fun hl => by have := hc (by simpa using hl); simpa using this) (by simpa using hk)]
theorem all_imp {l : List UInt8} {p q : UInt8 → Bool} (hpq : ∀ c, p c = true → q c = true) (h : l.all p = true) : l.all q = true := by
  rw [List.all_eq_true] at h ⊢
  exact fun x hx => hpq x (h x hx)
theorem noteN_stop {l : List UInt8} {k : Nat} (hp : Lib.hasPrefix l [47, 47] = true) (h : (l.take k).all plainC = true) (hk : k ≤ l.length) (hc : ∀ (hl : k < l.length), l[k] = 10) : noteN l = k := by
  have hr : runN notEnd l = k := runN_at (all_imp (fun c => plain_notEnd) h) (fun hl => by rw [hc hl]; rfl) hk
  unfold noteN; rw [hr, if_pos ⟨hp, h⟩]
theorem runN_gt {p : UInt8 → Bool} : ∀ {l : List UInt8} {k : Nat}, (l.take (k + 1)).all p = true → k < l.length → k < runN p l := by
  intro l
  induction l with
  | nil => intro k _ h; simp at h
  | cons c l ih =>
    intro k h hk
    simp only [List.take_succ_cons, List.all_cons, Bool.and_eq_true] at h
    unfold runN; rw [if_pos h.1]
    cases k with
    | zero => omega
    | succ k => have := ih h.2 (by simpa using hk); omega
theorem noteN_bad {l : List UInt8} {k : Nat} (h : (l.take k).all plainC = true) (hk : k < l.length) (hn : ¬ l[k] = 10) (hb : plainC l[k] = false) : noteN l = 0 := by
  unfold noteN
  rw [if_neg]
  rintro ⟨_, h2⟩
  have hgt : k < runN notEnd l := by
    refine runN_gt ?_ hk
    rw [List.take_succ_eq_append_getElem hk, List.all_append, all_imp (fun c => plain_notEnd) h]
    simp only [List.all_cons, List.all_nil, Bool.and_true, Bool.true_and]
    unfold notEnd; rw [bne_iff_ne]; exact hn
  rw [List.all_eq_true] at h2
  have := h2 l[k] (by rw [List.mem_take_iff_getElem]; exact ⟨k, by omega, rfl⟩)
  rw [hb] at this; cases this
theorem noteN_none {l : List UInt8} (hp : Lib.hasPrefix l [47, 47] = false) : noteN l = 0 := by unfold noteN; rw [hp]; simp
theorem pre_extract {s : ByteArray} {q : Nat} (hq : q + 2 ≤ s.size) : ((s.extract q (q + 2)).toList == [47, 47]) = Lib.hasPrefix (s.data.toList.drop q) [47, 47] := by
  have e : (s.extract q (q + 2)).toList = [s[q], s[q + 1]] := by
    rw [ByteArray.toList_eq, ByteArray.data_extract]
    simp only [Array.toList_extract, List.extract_eq_take_drop, show q + 2 - q = 2 by omega]
    rw [drop_get (by omega), drop_get (by omega)]
    rfl
  rw [e, drop_get (by omega), drop_get (show q + 1 < s.size by omega)]
  unfold Lib.hasPrefix
  simp only [List.isPrefixOf, Bool.and_true]
  by_cases h1 : s[q] = 47
  · by_cases h2 : s[q + 1] = 47
    · rw [h1, h2]; rfl
    · rw [h1]
      have e1 : ([(47 : UInt8), s[q + 1]] == [47, 47]) = false := by rw [beq_eq_false_iff_ne]; intro e; injection e with _ e; injection e with e _; exact h2 e
      have e2 : ((47 : UInt8) == s[q + 1]) = false := by rw [beq_eq_false_iff_ne]; exact fun e => h2 e.symm
      rw [e1, e2, Bool.and_false]
  · have e1 : ([s[q], s[q + 1]] == [47, 47]) = false := by rw [beq_eq_false_iff_ne]; intro e; injection e with e _; exact h1 e
    have e2 : ((47 : UInt8) == s[q]) = false := by rw [beq_eq_false_iff_ne]; exact fun e => h1 e.symm
    rw [e1, e2, Bool.false_and]
theorem ne_10 {c : UInt8} (h : ¬ c = 10) : ((c.toNat : Int) == 10) = false := by
  rw [beq_eq_false_iff_ne]; intro e; apply h; apply UInt8.toNat_inj.1; show c.toNat = 10; omega
theorem drop_len {s : ByteArray} {q : Nat} : (s.data.toList.drop q).length = s.size - q := by rw [List.length_drop, ba_len]
theorem drop_at {s : ByteArray} {q n : Nat} (hq : q ≤ n) (h : n < s.size) : ∀ (hl : n - q < (s.data.toList.drop q).length), (s.data.toList.drop q)[n - q] = s[n] := by
  intro hl
  rw [List.getElem_drop]
  have : q + (n - q) = n := by omega
  simp only [this]
  rfl
set_option maxRecDepth 100000 in
set_option maxHeartbeats 1600000 in
theorem l04Note_any (s : ByteArray) (q : Nat) (w : World) (hq : q ≤ s.size) (hs : s.size ≤ 4611686018427387904) :
    Calls Tryz.prog 115 #[.string s, .int .i64 q] w fun e w' => e = .returned (.int .i64 (noteN (s.data.toList.drop q) : Nat)) ∧ w = w' := by
  by_cases h2 : q + 2 ≤ s.size
  · have g2 : ¬ ((s.size : Int) < q + 2) := by omega
    have d2 : decide ((s.size : Int) < q + 2) = false := decide_eq_false g2
    have hpe := pre_extract h2
    have hsl : ∀ W : World, (Instr.slice 9 (.string s) (some (.int .i64 (q : Int))) (some (.int .i64 ((q : Int) + 2))) none).run Tryz.prog W = .ok (.string (s.extract q (q + 2))) W := fun W => by
      have h := run_slice_string (P := Tryz.prog) W 9 s .i64 .i64 (q : Int) ((q : Int) + 2) Tryz.underlying9 (by omega) (by omega) (by omega)
      rwa [show ((q : Int) + 2).toNat = q + 2 by omega, Int.toNat_natCast] at h
    cases hp : Lib.hasPrefix (s.data.toList.drop q) [47, 47] with
    | false =>
      rw [noteN_none hp]
      rw [hp] at hpe
      clear hp
      go_enter Tryz.func115, Tryz.ntmps115
      go_wp2
      go_ret
      exact ⟨rfl, rfl⟩
    | true =>
      rw [hp] at hpe
      have HS := Lib.hid (fun (k : Nat) => noteN_stop (l := s.data.toList.drop q) (k := k) hp)
      have HB := Lib.hid (fun (k : Nat) => noteN_bad (l := s.data.toList.drop q) (k := k))
      clear hp
      have hll := drop_len (s := s) (q := q)
      generalize hN : noteN (s.data.toList.drop q) = N at HS HB ⊢
      clear hN
      go_enter Tryz.func115, Tryz.ntmps115
      go_wp2
      go_loop [5] (fun i => ∃ n : Nat, q ≤ n ∧ n ≤ s.size ∧ Hid (((s.data.toList.drop q).take (n - q)).all plainC = true) ∧ i = .int .i64 n) (fun i => s.size - (intOf i).toNat)
      case atStart => exact ⟨q, by omega, by omega, (show _ = _ by rw [Nat.sub_self]; rfl), rfl⟩
      case round =>
        obtain ⟨n, hn1, hn2, HA, rfl⟩ := hrel
        by_cases hlt : n < s.size
        · have hat := drop_at hn1 hlt (by rw [hll]; omega)
          by_cases h10 : s[n] = 10
          · have hNn : N = n - q := HS.out _ HA.out (by omega) (fun _ => by rw [hat]; exact h10)
            have e10 : ((s[n].toNat : Int) == 10) = true := by rw [h10]; rfl
            have eN : (n : Int) - q = (N : Nat) := by omega
            clear HS HB HA hat h10 hNn hll
            go_wp2
            go_ret
            exact ⟨ret_int (by omega), rfl⟩
          · have e10 := ne_10 h10
            have HC := Lib.hid (fun (b : Bool) (hb : plainC s[n] = b) (W : World) => show Calls Tryz.prog 153 #[.int .u8 (s[n].toNat : Int)] W fun e w' => e = .returned (.bool b) ∧ W = w' by rw [← hb]; exact specPlain_any _ W)
            cases hp : plainC s[n] with
            | true =>
              have H2 := Lib.hid (HC.out _ hp)
              have HA2 : Hid (((s.data.toList.drop q).take (n + 1 - q)).all plainC = true) := by
                show _ = _
                rw [show n + 1 - q = n - q + 1 by omega, List.take_succ_eq_append_getElem (by rw [hll]; omega), List.all_append, HA.out, hat]
                simp [hp]
              clear HC hp HS HB HA hat h10 hll
              go_wp2_with (go_at_call 153; refine (H2.out _).mono ?_; rintro e w1 ⟨rfl, rfl⟩)
              go_round
              case rel => exact ⟨n + 1, by omega, by omega, HA2, by go_num⟩
              case measure => simp [intOf]; omega
            | false =>
              have H2 := Lib.hid (HC.out _ hp)
              have hN0 : N = 0 := HB.out _ HA.out (by rw [hll]; omega) (by rw [hat]; exact h10) (by rw [hat]; exact hp)
              subst hN0
              clear HC hp HS HB HA hat h10 hll
              go_wp2_with (go_at_call 153; refine (H2.out _).mono ?_; rintro e w1 ⟨rfl, rfl⟩)
              go_ret
              exact ⟨rfl, rfl⟩
        · have hNn : N = n - q := HS.out _ HA.out (by omega) (fun hl => by rw [hll] at hl; omega)
          have eN : (n : Int) - q = (N : Nat) := by omega
          clear HS HB HA hNn hll
          go_wp2
          go_ret
          exact ⟨ret_int (by omega), rfl⟩
  · have g2 : (s.size : Int) < q + 2 := by omega
    have d2 : decide ((s.size : Int) < q + 2) = true := decide_eq_true g2
    have hn : noteN (s.data.toList.drop q) = 0 := by
      apply noteN_none
      cases hp : Lib.hasPrefix (s.data.toList.drop q) [47, 47] with
      | false => rfl
      | true =>
        have := (List.isPrefixOf_iff_prefix.1 (show List.isPrefixOf [47, 47] (s.data.toList.drop q) = true from hp)).length_le
        rw [drop_len] at this
        simp at this; omega
    rw [hn]
    clear hn
    go_enter Tryz.func115, Tryz.ntmps115
    go_wp2
    go_ret
    exact ⟨rfl, rfl⟩
set_option maxHeartbeats 800000 in
theorem specTrimmed_any (s : ByteArray) (w : World) (hs : s.size ≤ maxLen) : Calls Tryz.prog 116 #[.string s] w fun e w' => e = .returned (.string (trimT s)) ∧ w = w' := by
  unfold maxLen at hs
  have HT := Lib.hid (fun (k : Nat) (hk : k ≤ s.size) h1 h2 => show s.extract 0 k = trimT s from by
    have h := Lib.trimRightB_take s.data.toList 32 k (by rw [ba_len]; exact hk) h1 h2
    unfold trimT
    rw [h]
    apply ba_ext
    rw [ByteArray.data_extract]
    simp)
  generalize trimT s = T at HT ⊢
  go_enter Tryz.func116, Tryz.ntmps116
  go_wp2
  go_loop [3] (fun i => ∃ k : Nat, k ≤ s.size ∧ Hid (∀ (j : Nat) b, k ≤ j → s.data.toList[j]? = some b → b = 32) ∧ i = .int .i64 k) (fun i => (intOf i).toNat)
  case atStart => exact ⟨s.size, Nat.le_refl _, (show ∀ _ _, _ from fun j b hj hb => by have := (List.getElem?_eq_some_iff.1 hb).1; rw [ba_len] at this; omega), rfl⟩
  case round =>
    obtain ⟨k, hk, HA, rfl⟩ := hrel
    by_cases h0 : 0 < k
    · obtain ⟨j, rfl⟩ : ∃ j, k = j + 1 := ⟨k - 1, by omega⟩
      have hlt : j < s.size := by omega
      have ej : ((j + 1 : Nat) : Int) - 1 = (j : Nat) := by omega
      have hget : s.data.toList[j]? = some s[j] := by rw [List.getElem?_eq_getElem (by rw [ba_len]; exact hlt)]; rfl
      by_cases h32 : s[j] = 32
      · have e32 : ((s[j].toNat : Int) == 32) = true := by rw [h32]; rfl
        have HA2 : Hid (∀ (i : Nat) b, j ≤ i → s.data.toList[i]? = some b → b = 32) := by
          show ∀ _ _, _
          intro i b hi hb
          by_cases hij : i = j
          · subst hij; rw [hget] at hb; obtain rfl := Option.some.inj hb; exact h32
          · exact HA.out i b (by omega) hb
        clear HT HA h32 hget
        go_wp2
        go_round
        case rel => exact ⟨j, by omega, HA2, by go_num⟩
        case measure => simp [intOf] <;> omega
      · have e32 : ((s[j].toNat : Int) == 32) = false := by
          rw [beq_eq_false_iff_ne]; intro e; apply h32; apply UInt8.toNat_inj.1; show s[j].toNat = 32; omega
        have HE := Lib.hid (HT.out (j + 1) hk HA.out (fun b _ hb => by
          rw [Nat.add_sub_cancel, hget] at hb; obtain rfl := Option.some.inj hb; exact h32))
        clear HT HA h32 hget
        go_wp2
        go_ret
        exact ⟨ret_str HE.out, rfl⟩
    · obtain rfl : k = 0 := by omega
      have HE := Lib.hid (HT.out 0 hk HA.out (fun b h => absurd h (by omega)))
      clear HT HA
      go_wp2
      go_ret
      exact ⟨ret_str (by rw [← HE.out]; simp), rfl⟩
set_option maxHeartbeats 800000 in
theorem specNum_any (s : ByteArray) (w : World) (hs : s.size ≤ maxLen) : Calls Tryz.prog 169 #[.string s] w fun e w' => e = .returned (.bool (numB s)) ∧ Below w.heap.size w w' := by
  unfold maxLen at hs
  apply still_below
  have hbase : ∀ (h : allB figC s = true), numB s = inB s.size 1 12 := by
    intro h
    unfold numB inB; rw [h, Bool.and_true]
    by_cases h2 : 0 < s.size ∧ s.size ≤ 12
    · rw [decide_eq_true h2, decide_eq_true (by omega)]
    · rw [decide_eq_false h2, decide_eq_false (by omega)]
  have hno : ∀ (h : allB figC s = false), numB s = false := by intro h; unfold numB; rw [h, Bool.and_false]
  have H1 := Lib.hid (fun W => l01In_b (s.size : Int) 1 12 W)
  have HB := Lib.hid hbase
  have HO := Lib.hid hno
  clear hbase hno
  generalize inB (s.size : Int) 1 12 = u at H1 HB
  generalize numB s = N at HB HO ⊢
  go_enter Tryz.func169, Tryz.ntmps169
  go_wp2
  go_loop [3] (fun i => ∃ k : Nat, k ≤ s.size ∧ AllTo figC s k ∧ i = .int .i64 k) (fun i => s.size - (intOf i).toNat)
  case atStart => exact ⟨0, Nat.zero_le _, allTo_zero _ s, rfl⟩
  case round =>
    obtain ⟨k, hk, ha, rfl⟩ := hrel
    by_cases hlt : k < s.size
    · have HC := Lib.hid (fun (b : Bool) (hb : figC s[k] = b) (W : World) => show Calls Tryz.prog 118 #[.int .u8 (s[k].toNat : Int)] W fun e w' => e = .returned (.bool b) ∧ W = w' by rw [← hb]; exact specFigure_any _ W)
      cases hp : figC s[k] with
      | false =>
        have hN : N = false := HO.out (allTo_no hlt hp)
        have HC2 := Lib.hid (HC.out _ hp)
        subst hN
        clear HC hp HB HO H1
        go_wp2_with (go_at_call 118; refine (HC2.out _).mono ?_; rintro e w1 ⟨rfl, rfl⟩)
        go_ret
        exact ⟨rfl, rfl⟩
      | true =>
        have hn := allTo_step ha hlt hp
        have HC2 := Lib.hid (HC.out _ hp)
        clear HC hp HB HO H1
        go_wp2_with (go_at_call 118; refine (HC2.out _).mono ?_; rintro e w1 ⟨rfl, rfl⟩)
        go_round
        case rel => exact ⟨k + 1, by omega, hn, by go_num⟩
        case measure => simp [intOf]; omega
    · have hN : N = u := HB.out (allTo_all ha (by omega))
      subst hN
      clear HB HO
      go_wp2_with (go_at_call 20; refine (H1.out _).mono ?_; rintro e w1 ⟨rfl, rfl⟩)
      go_ret
      exact ⟨rfl, rfl⟩
set_option maxHeartbeats 1600000 in
theorem specName_any (s : ByteArray) (w : World) (hs : s.size ≤ maxLen) : Calls Tryz.prog 168 #[.string s] w fun e w' => e = .returned (.bool (nameB s)) ∧ Below w.heap.size w w' := by
  unfold maxLen at hs
  apply still_below
  by_cases h1 : 1 ≤ s.size ∧ s.size ≤ 30
  · have h0 : 0 < s.size := h1.1
    have H1 := Lib.hid (fun W => l01In_is' (show inB (s.size : Int) 1 30 = true from decide_eq_true (by omega)) W)
    have HF := Lib.hid (fun (b : Bool) (hb : firstC s[0] = b) (W : World) => show Calls Tryz.prog 117 #[.int .u8 (s[0].toNat : Int)] W fun e w' => e = .returned (.bool b) ∧ W = w' by rw [← hb]; exact specFirst_any _ W)
    cases hb : firstC s[0] with
    | false =>
      have hr : nameB s = false := by unfold nameB; rw [nameW_no h0 hb]; rfl
      rw [hr]
      have H2 := Lib.hid (HF.out _ hb)
      clear HF hb hr
      go_enter Tryz.func168, Tryz.ntmps168
      go_wp2_with (first | (go_at_call 20; refine (H1.out _).mono ?_; rintro e w1 ⟨rfl, rfl⟩) | (go_at_call 117; refine (H2.out _).mono ?_; rintro e w1 ⟨rfl, rfl⟩))
      go_ret
      exact ⟨rfl, rfl⟩
    | true =>
      have H2 := Lib.hid (HF.out _ hb)
      have HK := Lib.hid (fun (b : Bool) (hb : keyB s = b) (W : World) => show Calls Tryz.prog 184 #[.string s] W fun e w' => e = .returned (.bool b) ∧ W = w' by rw [← hb]; exact specKey_any _ W)
      cases hkey : keyB s with
      | true =>
        have hr : nameB s = false := by unfold nameB; rw [hkey]; simp
        rw [hr]
        have H3 := Lib.hid (HK.out _ hkey)
        clear HF hb hr HK hkey
        go_enter Tryz.func168, Tryz.ntmps168
        go_wp2_with (first | (go_at_call 20; refine (H1.out _).mono ?_; rintro e w1 ⟨rfl, rfl⟩) | (go_at_call 117; refine (H2.out _).mono ?_; rintro e w1 ⟨rfl, rfl⟩) | (go_at_call 184; refine (H3.out _).mono ?_; rintro e w1 ⟨rfl, rfl⟩))
        go_ret
        exact ⟨rfl, rfl⟩
      | false =>
        have H3 := Lib.hid (HK.out _ hkey)
        have hr : nameB s = allB innerC s := by
          obtain ⟨l, hl⟩ := head_of h0
          have hf : firstH s = true := by unfold firstH; rw [hl]; exact hb
          unfold nameB nameW
          rw [hkey, hf, decide_eq_true h1.2]; simp
        rw [hr]
        clear HF hb hr HK hkey
        go_enter Tryz.func168, Tryz.ntmps168
        go_wp2_with (first | (go_at_call 20; refine (H1.out _).mono ?_; rintro e w1 ⟨rfl, rfl⟩) | (go_at_call 117; refine (H2.out _).mono ?_; rintro e w1 ⟨rfl, rfl⟩) | (go_at_call 184; refine (H3.out _).mono ?_; rintro e w1 ⟨rfl, rfl⟩))
        clear H1 H2 H3
        go_loop [3] (fun i => ∃ k : Nat, k ≤ s.size ∧ AllTo innerC s k ∧ i = .int .i64 k) (fun i => s.size - (intOf i).toNat)
        case atStart => exact ⟨0, Nat.zero_le _, allTo_zero _ s, rfl⟩
        case round =>
          obtain ⟨k, hk, ha, rfl⟩ := hrel
          by_cases hlt : k < s.size
          · have HC := Lib.hid (fun (b : Bool) (hb : firstC s[k] = b) (W : World) => show Calls Tryz.prog 117 #[.int .u8 (s[k].toNat : Int)] W fun e w' => e = .returned (.bool b) ∧ W = w' by rw [← hb]; exact specFirst_any _ W)
            have HG := Lib.hid (fun (b : Bool) (hb : figC s[k] = b) (W : World) => show Calls Tryz.prog 118 #[.int .u8 (s[k].toNat : Int)] W fun e w' => e = .returned (.bool b) ∧ W = w' by rw [← hb]; exact specFigure_any _ W)
            cases hp : firstC s[k] with
            | true =>
              have hn := allTo_step ha hlt (show innerC s[k] = true by unfold innerC; rw [hp]; rfl)
              have HC2 := Lib.hid (HC.out _ hp)
              clear HC hp HG
              go_wp2_with (first | (go_at_call 117; refine (HC2.out _).mono ?_; rintro e w1 ⟨rfl, rfl⟩))
              go_round
              case rel => exact ⟨k + 1, by omega, hn, by go_num⟩
              case measure => simp [intOf]; omega
            | false =>
              have HC2 := Lib.hid (HC.out _ hp)
              cases hg : figC s[k] with
              | true =>
                have hn := allTo_step ha hlt (show innerC s[k] = true by unfold innerC; rw [hg, Bool.or_true])
                have HG2 := Lib.hid (HG.out _ hg)
                clear HC hp HG hg
                go_wp2_with (first | (go_at_call 117; refine (HC2.out _).mono ?_; rintro e w1 ⟨rfl, rfl⟩) | (go_at_call 118; refine (HG2.out _).mono ?_; rintro e w1 ⟨rfl, rfl⟩))
                go_round
                case rel => exact ⟨k + 1, by omega, hn, by go_num⟩
                case measure => simp [intOf]; omega
              | false =>
                have hn := Lib.hid (allTo_no hlt (show innerC s[k] = false by unfold innerC; rw [hp, hg]; rfl))
                have HG2 := Lib.hid (HG.out _ hg)
                clear HC hp HG hg
                go_wp2_with (first | (go_at_call 117; refine (HC2.out _).mono ?_; rintro e w1 ⟨rfl, rfl⟩) | (go_at_call 118; refine (HG2.out _).mono ?_; rintro e w1 ⟨rfl, rfl⟩))
                go_ret
                exact ⟨ret_bool hn.out.symm, rfl⟩
          · have hn := Lib.hid (allTo_all ha (by omega))
            go_wp2
            go_ret
            exact ⟨ret_bool hn.out.symm, rfl⟩
  · have H1 := Lib.hid (fun W => l01In_is' (show inB (s.size : Int) 1 30 = false from decide_eq_false (by omega)) W)
    have hr : nameB s = false := by
      unfold nameB nameW
      by_cases h0 : s.size = 0
      · have hl : s.data.toList = [] := List.eq_nil_of_length_eq_zero (by rw [ba_len]; exact h0)
        unfold firstH; rw [hl]; simp
      · rw [decide_eq_false (show ¬ s.size ≤ 30 by omega)]; simp
    rw [hr]
    clear hr
    go_enter Tryz.func168, Tryz.ntmps168
    go_wp2_with (first | (go_at_call 20; refine (H1.out _).mono ?_; rintro e w1 ⟨rfl, rfl⟩))
    go_ret
    exact ⟨rfl, rfl⟩
set_option maxHeartbeats 800000 in
theorem specQuo_any (s : ByteArray) (w : World) (hs : s.size ≤ 4611686018427387904) : Calls Tryz.prog 170 #[.string s] w fun e w' => e = .returned (.bool (quoB s)) ∧ Below w.heap.size w w' := by
  apply still_below
  by_cases h1 : 1 < s.size
  · have g1 : (1 : Int) < s.size := by omega
    have h0 : 0 < s.size := by omega
    by_cases hq : s[0] = 39
    · have e39 : ((s[0].toNat : Int) == 39) = true := by rw [hq]; rfl
      have H1 := Lib.hid (fun W => l04Quoted_any s 0 W (by omega) hs)
      have hr : quoB s = decide (quoN s.data.toList = s.size) := by
        obtain ⟨l, hl⟩ := head_of h0
        unfold quoB; rw [decide_eq_true h1]
        rw [hl]; simp [hq]
      have hi : ((quoN s.data.toList : Int) == (s.size : Int)) = decide (quoN s.data.toList = s.size) := by
        by_cases h : quoN s.data.toList = s.size
        · rw [decide_eq_true h, h]; exact beq_self_eq_true _
        · rw [decide_eq_false h, beq_eq_false_iff_ne]; omega
      rw [hr, ← hi]
      rw [show s.data.toList.drop 0 = s.data.toList from rfl] at H1
      clear hr hi hq
      generalize quoN s.data.toList = N at H1 ⊢
      go_enter Tryz.func170, Tryz.ntmps170
      go_wp2_with (go_at_call 119; refine (H1.out _).mono ?_; rintro e w1 ⟨rfl, rfl⟩)
      go_ret
      exact ⟨rfl, rfl⟩
    · have e39 := ne_39 hq
      rw [quoB_no h0 hq]
      clear hq
      go_enter Tryz.func170, Tryz.ntmps170
      go_wp2
      go_ret
      exact ⟨rfl, rfl⟩
  · have hr : quoB s = false := by unfold quoB; rw [decide_eq_false h1, Bool.false_and, Bool.false_and]
    have g1 : ¬ ((1 : Int) < s.size) := by omega
    rw [hr]
    go_enter Tryz.func170, Tryz.ntmps170
    go_wp2
    go_ret
    exact ⟨rfl, rfl⟩
set_option maxHeartbeats 800000 in
theorem specNote_any (s : ByteArray) (w : World) (hs : s.size ≤ 4611686018427387904) : Calls Tryz.prog 171 #[.string s] w fun e w' => e = .returned (.bool (noteB s)) ∧ Below w.heap.size w w' := by
  apply still_below
  by_cases h1 : 1 < s.size
  · have g1 : (1 : Int) < s.size := by omega
    have H1 := Lib.hid (fun W => l04Note_any s 0 W (by omega) hs)
    rw [show s.data.toList.drop 0 = s.data.toList from rfl] at H1
    by_cases hn : noteN s.data.toList = s.size
    · have H2 := Lib.hid (fun W => specTrimmed_any s W (by unfold maxLen; omega))
      have hr : noteB s = ((trimT s).toList == s.toList) := by
        rw [tl_beq]; unfold noteB; rw [decide_eq_true h1, decide_eq_true hn]; simp
      rw [hr]
      rw [hn] at H1
      clear hn hr
      generalize trimT s = T at H2 ⊢
      go_enter Tryz.func171, Tryz.ntmps171
      go_wp2_with (first | (go_at_call 115; refine (H1.out _).mono ?_; rintro e w1 ⟨rfl, rfl⟩) | (go_at_call 116; refine (H2.out _).mono ?_; rintro e w1 ⟨rfl, rfl⟩))
      go_ret
      exact ⟨rfl, rfl⟩
    · have hr : noteB s = false := by unfold noteB; rw [decide_eq_false hn, Bool.and_false, Bool.false_and]
      rw [hr]
      have hi : ((noteN s.data.toList : Int) == (s.size : Int)) = false := by rw [beq_eq_false_iff_ne]; omega
      clear hr hn
      generalize noteN s.data.toList = N at H1 hi ⊢
      go_enter Tryz.func171, Tryz.ntmps171
      go_wp2_with (first | (go_at_call 115; refine (H1.out _).mono ?_; rintro e w1 ⟨rfl, rfl⟩))
      go_ret
      exact ⟨rfl, rfl⟩
  · have hr : noteB s = false := by unfold noteB; rw [decide_eq_false h1, Bool.false_and, Bool.false_and]
    have g1 : ¬ ((1 : Int) < s.size) := by omega
    rw [hr]
    go_enter Tryz.func171, Tryz.ntmps171
    go_wp2
    go_ret
    exact ⟨rfl, rfl⟩
set_option maxHeartbeats 1600000 in
theorem l05Text_name (kind : Int) (s : ByteArray) (w : World) (hs : s.size ≤ 4611686018427387904) (hk : kind = 1 ∨ kind = 6 ∨ kind = 12 ∨ kind = 13 ∨ kind = 20 ∨ kind = 21) :
    Calls Tryz.prog 141 #[.int .i64 kind, .string s] w fun e w' => e = .returned (.bool (textB kind s)) ∧ Below w.heap.size w w' := by
  rw [textB_name hk]
  have H := Lib.hid (fun W => specName_any s W (by unfold maxLen; omega))
  generalize nameB s = u at H ⊢
  rcases hk with rfl | rfl | rfl | rfl | rfl | rfl
  all_goals
    go_enter Tryz.func141, Tryz.ntmps141
    go_wp2_with (go_at_call 168; refine (H.out _).mono ?_; rintro e w1 ⟨rfl, h2⟩)
    go_ret
    exact ⟨rfl, h2⟩
set_option maxHeartbeats 1600000 in
theorem l05Text_num (kind : Int) (s : ByteArray) (w : World) (hs : s.size ≤ 4611686018427387904) (hk : kind = 2) :
    Calls Tryz.prog 141 #[.int .i64 kind, .string s] w fun e w' => e = .returned (.bool (textB kind s)) ∧ Below w.heap.size w w' := by
  rw [textB_sign (j := 2) (.inl ⟨hk, rfl⟩)]
  have H := Lib.hid (fun W => show Calls Tryz.prog 169 #[.string s] W fun e w' => e = .returned (.bool (signB s 2)) ∧ Below W.heap.size W w' from specNum_any s W (by unfold maxLen; omega))
  generalize signB s 2 = u at H ⊢
  subst hk
  all_goals
    go_enter Tryz.func141, Tryz.ntmps141
    go_wp2_with (go_at_call 169; refine (H.out _).mono ?_; rintro e w1 ⟨rfl, h2⟩)
    go_ret
    exact ⟨rfl, h2⟩
set_option maxHeartbeats 1600000 in
theorem l05Text_quo (kind : Int) (s : ByteArray) (w : World) (hs : s.size ≤ 4611686018427387904) (hk : kind = 3) :
    Calls Tryz.prog 141 #[.int .i64 kind, .string s] w fun e w' => e = .returned (.bool (textB kind s)) ∧ Below w.heap.size w w' := by
  rw [textB_sign (j := 3) (.inr (.inl ⟨hk, rfl⟩))]
  have H := Lib.hid (fun W => show Calls Tryz.prog 170 #[.string s] W fun e w' => e = .returned (.bool (signB s 3)) ∧ Below W.heap.size W w' from specQuo_any s W hs)
  generalize signB s 3 = u at H ⊢
  subst hk
  all_goals
    go_enter Tryz.func141, Tryz.ntmps141
    go_wp2_with (go_at_call 170; refine (H.out _).mono ?_; rintro e w1 ⟨rfl, h2⟩)
    go_ret
    exact ⟨rfl, h2⟩
set_option maxHeartbeats 1600000 in
theorem l05Text_note (kind : Int) (s : ByteArray) (w : World) (hs : s.size ≤ 4611686018427387904) (hk : kind = 19) :
    Calls Tryz.prog 141 #[.int .i64 kind, .string s] w fun e w' => e = .returned (.bool (textB kind s)) ∧ Below w.heap.size w w' := by
  rw [textB_sign (j := 5) (.inr (.inr ⟨hk, rfl⟩))]
  have H := Lib.hid (fun W => show Calls Tryz.prog 171 #[.string s] W fun e w' => e = .returned (.bool (signB s 5)) ∧ Below W.heap.size W w' from specNote_any s W hs)
  generalize signB s 5 = u at H ⊢
  subst hk
  all_goals
    go_enter Tryz.func141, Tryz.ntmps141
    go_wp2_with (go_at_call 171; refine (H.out _).mono ?_; rintro e w1 ⟨rfl, h2⟩)
    go_ret
    exact ⟨rfl, h2⟩
set_option maxHeartbeats 1600000 in
theorem l05Text_chain (kind : Int) (s : ByteArray) (w : World) (hs : s.size ≤ 4611686018427387904) (hk : kind = 7) :
    Calls Tryz.prog 141 #[.int .i64 kind, .string s] w fun e w' => e = .returned (.bool (textB kind s)) ∧ Below w.heap.size w w' := by
  rw [show textB kind s = chainB s from by subst hk; rfl]
  have H := Lib.hid (fun W => show Calls Tryz.prog 172 #[.string s] W fun e w' => e = .returned (.bool (chainB s)) ∧ Below W.heap.size W w' from (specChain_any s W).mono fun e w' ⟨h1, h2⟩ => ⟨h1, by subst h2; exact Below.refl _ _⟩)
  generalize chainB s = u at H ⊢
  subst hk
  all_goals
    go_enter Tryz.func141, Tryz.ntmps141
    go_wp2_with (go_at_call 172; refine (H.out _).mono ?_; rintro e w1 ⟨rfl, h2⟩)
    go_ret
    exact ⟨rfl, h2⟩
set_option maxHeartbeats 1600000 in
theorem l05Text_rest (kind : Int) (s : ByteArray) (w : World) (hs : s.size ≤ 4611686018427387904) (hk : kind ≠ 1 ∧ kind ≠ 6 ∧ kind ≠ 12 ∧ kind ≠ 13 ∧ kind ≠ 20 ∧ kind ≠ 21 ∧ kind ≠ 2 ∧ kind ≠ 3 ∧ kind ≠ 19 ∧ kind ≠ 7) :
    Calls Tryz.prog 141 #[.int .i64 kind, .string s] w fun e w' => e = .returned (.bool (textB kind s)) ∧ Below w.heap.size w w' := by
  rw [textB_rest hk, ← size_zero_beq]
  have d1 : (kind == 1) = false := by rw [beq_eq_false_iff_ne]; omega
  have d6 : (kind == 6) = false := by rw [beq_eq_false_iff_ne]; omega
  have d12 : (kind == 12) = false := by rw [beq_eq_false_iff_ne]; omega
  have d13 : (kind == 13) = false := by rw [beq_eq_false_iff_ne]; omega
  have d20 : (kind == 20) = false := by rw [beq_eq_false_iff_ne]; omega
  have d21 : (kind == 21) = false := by rw [beq_eq_false_iff_ne]; omega
  have d2 : (kind == 2) = false := by rw [beq_eq_false_iff_ne]; omega
  have d3 : (kind == 3) = false := by rw [beq_eq_false_iff_ne]; omega
  have d19 : (kind == 19) = false := by rw [beq_eq_false_iff_ne]; omega
  have d7 : (kind == 7) = false := by rw [beq_eq_false_iff_ne]; omega
  clear hk hs
  go_enter Tryz.func141, Tryz.ntmps141
  go_wp2
  go_ret
  refine ⟨ret_bool ?_, (by repeat' (first | (with_reducible exact Below.refl _ _) | (with_reducible assumption) | (with_reducible refine below_drewN ?_ _) | (with_reducible refine Below.drew ?_) | (with_reducible refine Below.alloc ?_ ?_ _) | (with_reducible refine Below.setCell ?_ ?_ _) | go_size))⟩
  first | rfl | simp
theorem l05Text_any (kind : Int) (s : ByteArray) (w : World) (hs : s.size ≤ 4611686018427387904) :
    Calls Tryz.prog 141 #[.int .i64 kind, .string s] w fun e w' => e = .returned (.bool (textB kind s)) ∧ Below w.heap.size w w' := by
  by_cases h1 : kind = 1 ∨ kind = 6 ∨ kind = 12 ∨ kind = 13 ∨ kind = 20 ∨ kind = 21
  · exact l05Text_name kind s w hs h1
  · by_cases h2 : kind = 2
    · exact l05Text_num kind s w hs h2
    · by_cases h3 : kind = 3
      · exact l05Text_quo kind s w hs h3
      · by_cases h4 : kind = 19
        · exact l05Text_note kind s w hs h4
        · by_cases h5 : kind = 7
          · exact l05Text_chain kind s w hs h5
          · exact l05Text_rest kind s w hs (by omega)
end Go.Proofs.YtpfanhheodiamaaGreatDoor
