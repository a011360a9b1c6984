
/-
  Contracts: is a node right, of the reference (spec.NodeOk).
-/
import Derived.Test.YtpfanhheodiamaaGreatDoorShapeM
namespace Go.Proofs.YtpfanhheodiamaaGreatDoor
open Go.RowKit
set_option linter.unusedVariables false
set_option linter.unusedSimpArgs false

theorem l05Fits_any (A : Option Addr) (n c : Nat) (ps : List PN) (k i : Nat) (x y : PN) (q : Nat) (w : World) (hn : n ≤ 1048576) (hps : Nps w A n ps) (hb : Hid (PNs ps)) (hk : k < n) (hx : Hid (ps[k]? = some x)) (hi : i < x.kids.length) (hd : Hid (x.kids[i]? = some (q : Int))) (hq : q < n) (hy : Hid (ps[q]? = some y)) (hcall : y.kind = 5 → ∃ (r : Nat) (js : List Int), y.kids = (r : Int) :: js ∧ r < n) (hkind : 1 ≤ x.kind ∧ x.kind ≤ 22) :
    Calls Tryz.prog 143 #[.slice A n c, .int .i64 k, .int .i64 i] w fun e w' => e = .returned (.bool (fitB ps x.kind x.kids.length i q)) ∧ Below w.heap.size w w' := by
  by_cases h9 : x.kind = 9
  · exact fit_fn A n c ps k i x y q w hn hps hb hk hx hi hd hq hy h9
  by_cases h20 : x.kind = 20
  · exact fit_method A n c ps k i x y q w hn hps hb hk hx hi hd hq hy h20
  by_cases h10 : x.kind = 10
  · exact fit_cascade A n c ps k i x y q w hn hps hb hk hx hi hd hq hy hcall h10
  by_cases h16 : x.kind = 16
  · exact fit_if A n c ps k i x y q w hn hps hb hk hx hi hd hq hy h16
  by_cases h17 : x.kind = 17
  · exact fit_while A n c ps k i x y q w hn hps hb hk hx hi hd hq hy h17
  by_cases h18 : x.kind = 18
  · exact fit_block A n c ps k i x y q w hn hps hb hk hx hi hd hq hy h18
  by_cases h21 : x.kind = 21
  · exact fit_class A n c ps k i x y q w hn hps hb hk hx hi hd hq hy h21
  by_cases h22 : x.kind = 22
  · exact fit_file A n c ps k i x y q w hn hps hb hk hx hi hd hq hy h22
  exact fit_def A n c ps k i x y q w hn hps hb hk hx hi hd hq hy (by omega)
/-- Is a kid, if it is a call, one with a first kid that is a node? -/
def callIn (ps : List PN) (v : Int) : Bool :=
  match ps[v.toNat]? with
  | some y => if y.kind = 5 then (match y.kids with | [] => false | j :: _ => inB j 0 ((ps.length : Int) - 1)) else true
  | none => false
section
variable {ps : List PN} {k : Nat} {y : PN} {j : Int} {js : List Int}
theorem callIn_other (h : ps[k]? = some y) (h5 : ¬ y.kind = 5) : callIn ps (k : Int) = true := by unfold callIn; rw [Int.toNat_natCast, h]; simp only; rw [if_neg h5]
theorem callIn_bare (h : ps[k]? = some y) (h5 : y.kind = 5) (hk : y.kids = []) : callIn ps (k : Int) = false := by unfold callIn; rw [Int.toNat_natCast, h]; simp only; rw [if_pos h5, hk]
theorem callIn_some (h : ps[k]? = some y) (h5 : y.kind = 5) (hk : y.kids = j :: js) : callIn ps (k : Int) = inB j 0 ((ps.length : Int) - 1) := by unfold callIn; rw [Int.toNat_natCast, h]; simp only; rw [if_pos h5, hk]
end
def kidFit (ps : List PN) (x : PN) (i : Nat) (v : Int) : Bool := callIn ps v && fitB ps x.kind x.kids.length i v
/-- Is node k right, as the reference asks it? -/
def specNB (ps : List PN) (k : Nat) : Bool :=
  match ps[k]? with
  | some x => inB x.kind 1 22 && (inB (x.kids.length : Int) (cntLo x.kind) (cntHi x.kind) && (textB x.kind x.text && (!(x.blank && !mayK x.kind) && (kidsB k x.kids && allIB (kidFit ps x) x.kids))))
  | none => false
theorem mayK_eq (k : Int) : mayK k = (stmtK k || k == 20 || k == 21) := by
  unfold mayK stmtK memberK stepK
  cases h12 : (k == 12) with
  | true =>
    rw [beq_iff_eq] at h12
    subst h12
    decide
  | false =>
    generalize inB k 12 17 = a
    generalize (k == 20) = b
    generalize (k == 19) = d
    generalize (k == 21) = e
    revert a b d e
    decide
set_option maxHeartbeats 400000 in
theorem specNodeOk_out (A : Option Addr) (n c : Nat) (k : Int) (w : World) (hn : n ≤ 1048576) (hk : ¬ (0 ≤ k ∧ k < (n : Int))) :
    Calls Tryz.prog 104 #[.slice A n c, .int .i64 k] w fun e w' => e = .returned (.bool false) ∧ Below w.heap.size w w' := by
  have HN := Lib.hid (fun W => l01In_is' (show inB k 0 ((n : Int) - 1) = false from decide_eq_false (by omega)) W)
  go_enter Tryz.func104, Tryz.ntmps104
  go_wp2_with fail
  refine (HN.out _).mono ?_
  rintro e w1 ⟨rfl, rfl⟩
  go_wp2
  go_ret
  exact ⟨rfl, (by repeat' (first | (with_reducible exact Below.refl _ _) | (with_reducible assumption) | (with_reducible refine below_drewN ?_ _) | (with_reducible refine Below.drew ?_) | (with_reducible refine Below.alloc ?_ ?_ _) | (with_reducible refine Below.setCell ?_ ?_ _) | go_size))⟩
set_option maxRecDepth 100000 in
set_option maxHeartbeats 6400000 in
theorem specNodeOk_in (A : Option Addr) (n c : Nat) (ps : List PN) (k : Nat) (w : World) (hn : n ≤ 1048576) (hps : Nps w A n ps) (hb : Hid (PNs ps)) (hk : k < n) :
    Calls Tryz.prog 104 #[.slice A n c, .int .i64 k] w fun e w' => e = .returned (.bool (specNB ps k)) ∧ Below w.heap.size w w' := by
  have HP := Lib.hid hps
  have HL := Lib.hid hps.len
  obtain ⟨x, hx⟩ := hps.get hk
  obtain ⟨b, off, A2, c2, rfl, hblt, x0, x1, x2, x3, hcap, hxr⟩ := hps.atc hk hx
  have hxb := hb.out x (List.mem_of_getElem? hx)
  have HX := Lib.hid hx
  have HXR := Lib.hid hxr
  have HN := Lib.hid (fun W => l01In_is' (show inB (k : Int) 0 ((n : Int) - 1) = true from decide_eq_true (by omega)) W)
  have hk' : (k : Int) < n := by omega
  obtain ⟨hxt, hxk⟩ := hxb
  have HNB : Hid (specNB ps k = (inB x.kind 1 22 && (inB (x.kids.length : Int) (cntLo x.kind) (cntHi x.kind) && (textB x.kind x.text && (!(x.blank && !mayK x.kind) && (kidsB k x.kids && allIB (kidFit ps x) x.kids)))))) := (show _ = _ by unfold specNB; rw [hx])
  clear hps hx hxr
  generalize specNB ps k = NB at HNB ⊢
  cases hkd : inB x.kind 1 22 with
  | false =>
    have hNB : NB = false := by rw [HNB.out, hkd]; rfl
    subst hNB
    have HK := Lib.hid (fun W => l01In_is' hkd W)
    clear HNB hkd
    go_enter Tryz.func104, Tryz.ntmps104
    go_wp2_with fail
    refine (HN.out _).mono ?_
    rintro e w1 ⟨rfl, rfl⟩
    go_wp2_with fail
    refine (HK.out _).mono ?_
    rintro e w1 ⟨rfl, rfl⟩
    go_wp2
    go_ret
    exact ⟨rfl, (by repeat' (first | (with_reducible exact Below.refl _ _) | (with_reducible assumption) | (with_reducible refine below_drewN ?_ _) | (with_reducible refine Below.drew ?_) | (with_reducible refine Below.alloc ?_ ?_ _) | (with_reducible refine Below.setCell ?_ ?_ _) | go_size))⟩
  | true =>
    have HK := Lib.hid (fun W => l01In_is' hkd W)
    have hkd2 : 1 ≤ x.kind ∧ x.kind ≤ 22 := of_decide_eq_true hkd
    have HC := Lib.hid (fun W => l05Count_any x.kind W hkd2)
    have HKD := Lib.hid hkd2
    replace HNB : Hid (NB = (inB (x.kids.length : Int) (cntLo x.kind) (cntHi x.kind) && (textB x.kind x.text && (!(x.blank && !mayK x.kind) && (kidsB k x.kids && allIB (kidFit ps x) x.kids))))) := (show _ = _ by rw [HNB.out, hkd, Bool.true_and])
    clear hkd hkd2
    have HCI := Lib.hid (fun (v : Bool) (h : inB (x.kids.length : Int) (cntLo x.kind) (cntHi x.kind) = v) W => l01In_is' h W)
    cases hci : inB (x.kids.length : Int) (cntLo x.kind) (cntHi x.kind) with
    | false =>
      have hNB : NB = false := by rw [HNB.out, hci]; rfl
      subst hNB
      have HCI2 := Lib.hid (HCI.out _ hci)
      clear HNB hci HCI
      generalize cntLo x.kind = lo at *
      generalize cntHi x.kind = hh at *
      go_enter Tryz.func104, Tryz.ntmps104
      go_wp2_with fail
      refine (HN.out _).mono ?_
      rintro e w1 ⟨rfl, rfl⟩
      go_wp2_with fail
      refine (HK.out _).mono ?_
      rintro e w1 ⟨rfl, rfl⟩
      go_wp2_with fail
      refine (HC.out _).mono ?_
      rintro e w1 ⟨rfl, rfl⟩
      go_wp2_with fail
      refine (HCI2.out _).mono ?_
      rintro e w1 ⟨rfl, rfl⟩
      go_wp2
      go_ret
      exact ⟨rfl, (by repeat' (first | (with_reducible exact Below.refl _ _) | (with_reducible assumption) | (with_reducible refine below_drewN ?_ _) | (with_reducible refine Below.drew ?_) | (with_reducible refine Below.alloc ?_ ?_ _) | (with_reducible refine Below.setCell ?_ ?_ _) | go_size))⟩
    | true =>
      have HCI2 := Lib.hid (HCI.out _ hci)
      replace HNB : Hid (NB = (textB x.kind x.text && (!(x.blank && !mayK x.kind) && (kidsB k x.kids && allIB (kidFit ps x) x.kids)))) := (show _ = _ by rw [HNB.out, hci, Bool.true_and])
      clear hci HCI
      have HT := Lib.hid (fun (v : Bool) (h : textB x.kind x.text = v) W => show Calls Tryz.prog 141 #[.int .i64 x.kind, .string x.text] W fun e w' => e = .returned (.bool v) ∧ Below W.heap.size W w' by rw [← h]; exact l05Text_any x.kind x.text W (by omega))
      generalize cntLo x.kind = lo at *
      generalize cntHi x.kind = hh at *
      cases ht : textB x.kind x.text with
      | false =>
        have hNB : NB = false := by rw [HNB.out, ht]; rfl
        subst hNB
        have HT2 := Lib.hid (HT.out _ ht)
        clear HNB ht HT
        go_enter Tryz.func104, Tryz.ntmps104
        go_wp2_with fail
        refine (HN.out _).mono ?_
        rintro e w1 ⟨rfl, rfl⟩
        go_wp2_with fail
        refine (HK.out _).mono ?_
        rintro e w1 ⟨rfl, rfl⟩
        go_wp2_with fail
        refine (HC.out _).mono ?_
        rintro e w1 ⟨rfl, rfl⟩
        go_wp2_with fail
        refine (HCI2.out _).mono ?_
        rintro e w1 ⟨rfl, rfl⟩
        go_wp2_with fail
        refine (HT2.out _).mono ?_
        rintro e w2 ⟨rfl, h2⟩
        go_wp2
        go_ret
        exact ⟨rfl, below_box h2⟩
      | true =>
        have HT2 := Lib.hid (HT.out _ ht)
        replace HNB : Hid (NB = (!(x.blank && !mayK x.kind) && (kidsB k x.kids && allIB (kidFit ps x) x.kids))) := (show _ = _ by rw [HNB.out, ht, Bool.true_and])
        clear ht HT
        go_enter Tryz.func104, Tryz.ntmps104
        go_wp2_with fail
        refine (HN.out _).mono ?_
        rintro e w1 ⟨rfl, rfl⟩
        go_wp2_with fail
        refine (HK.out _).mono ?_
        rintro e w1 ⟨rfl, rfl⟩
        go_wp2_with fail
        refine (HC.out _).mono ?_
        rintro e w1 ⟨rfl, rfl⟩
        go_wp2_with fail
        refine (HCI2.out _).mono ?_
        rintro e w1 ⟨rfl, rfl⟩
        go_wp2_with fail
        refine (HT2.out _).mono ?_
        rintro e w2 ⟨rfl, h2⟩
        have K := Blk.fresh h2
        have hbw := below_box h2
        clear h2 x0 x1 x2 x3 hblt HN HK HC HCI2 HT2
        have k0 := K.cell 0
        have k2 := K.cell 2
        have k3 := K.cell 3
        have kz := K.lt
        simp only [List.getElem?_toArray, List.getElem?_cons_zero, List.getElem?_cons_succ] at k0 k2 k3
        go_upto_region 7 with fail
        go_cut [69] (fun s wx => s = .bool (x.blank && !mayK x.kind) ∧ Blk wx w.heap.size 48 #[.int .i64 x.kind, .string x.text, .slice A2 x.kids.length c2, .bool x.blank] ∧ Below w.heap.size w wx)
        case first =>
          have HS := Lib.hid (fun (u : Bool) (h : stmtK x.kind = u) (W : World) => show Calls Tryz.prog 142 #[.int .i64 x.kind] W fun e w' => e = .returned (.bool u) ∧ W = w' by rw [← h]; exact specStmt_any _ W)
          have hmk := Lib.hid (mayK_eq x.kind)
          clear HNB
          cases hbl : x.blank with
          | false =>
            rw [hbl] at k3
            clear HS hmk
            go_wp2
            go_meet
            case rel => exact ⟨by rw [hbl, Bool.false_and], K, hbw⟩
          | true =>
            rw [hbl] at k3
            cases hs : stmtK x.kind with
            | true =>
              have HS2 := Lib.hid (HS.out _ hs)
              have hm := Lib.hid (show mayK x.kind = true by rw [hmk.out, hs]; rfl)
              clear HS hs hmk
              go_wp2_with fail
              refine (HS2.out _).mono ?_
              rintro e w1 ⟨rfl, rfl⟩
              go_wp2
              go_meet
              case rel => exact ⟨by rw [hbl, hm.out]; rfl, K, hbw⟩
            | false =>
              have HS2 := Lib.hid (HS.out _ hs)
              cases h20 : (x.kind == 20) with
              | true =>
                have hm := Lib.hid (show mayK x.kind = true by rw [hmk.out, h20]; simp)
                have h20' : (x.kind != 20) = false := by unfold bne; rw [h20]; rfl
                clear HS hs hmk h20
                go_wp2_with fail
                refine (HS2.out _).mono ?_
                rintro e w1 ⟨rfl, rfl⟩
                go_wp2
                go_meet
                case rel => exact ⟨by rw [hbl, hm.out]; rfl, K, hbw⟩
              | false =>
                have hm := Lib.hid (show (!mayK x.kind) = (x.kind != 21) by rw [hmk.out, hs, h20]; rfl)
                have h20' : (x.kind != 20) = true := by unfold bne; rw [h20]; rfl
                clear HS hs hmk h20
                go_wp2_with fail
                refine (HS2.out _).mono ?_
                rintro e w1 ⟨rfl, rfl⟩
                go_wp2
                go_meet
                case rel => exact ⟨by rw [hbl, hm.out]; rfl, K, hbw⟩
        case rest =>
          clear K hbw k0 k2 k3 kz
          obtain ⟨rfl, K, hbw⟩ := hcut
          generalize hbm : (x.blank && !mayK x.kind) = bm at HNB ⊢
          clear hbm
          cases bm with
          | true =>
            have hNB : NB = false := HNB.out
            subst hNB
            go_wp2
            go_ret
            exact ⟨rfl, hbw⟩
          | false =>
            replace HNB : Hid (NB = (kidsB k x.kids && allIB (kidFit ps x) x.kids)) := (show _ = _ by rw [HNB.out]; rfl)
            have HNK := Lib.hid (fun h3 : kidsB k x.kids = false => show NB = false by rw [HNB.out, h3]; rfl)
            have HNA := Lib.hid (fun h3 : kidsB k x.kids = true => show NB = allIB (kidFit ps x) x.kids by rw [HNB.out, h3]; rfl)
            clear HNB
            go_wp2
            go_loopw [8] (fun i wr => ∃ t : Nat, t ≤ x.kids.length ∧ i = .int .i64 t ∧ Hid (AllI (kidOk k x.kids) x.kids t) ∧ Blk wr w.heap.size 48 #[.int .i64 x.kind, .string x.text, .slice A2 x.kids.length c2, .bool x.blank] ∧ Below w.heap.size w wr) (fun i _ => x.kids.length - (intOf i).toNat)
            case atStart => exact ⟨0, Nat.zero_le _, rfl, allI_zero _ _, K, hbw⟩
            case round =>
              clear K hbw
              obtain ⟨t, htm, rfl, HA, K, hbw⟩ := hrel
              have kz := K.lt
              have k2 := K.cell 2
              simp only [List.getElem?_toArray, List.getElem?_cons_zero, List.getElem?_cons_succ] at k2
              by_cases hlt : t < x.kids.length
              · obtain ⟨v, hd⟩ : ∃ d, x.kids[t]? = some d := ⟨_, List.getElem?_eq_getElem hlt⟩
                obtain ⟨b5, off5, rfl, hblt5, cv⟩ := int_at (HXR.out.below hbw) hlt hd
                have HI := Lib.hid (fun (u : Bool) (h : inB v 0 ((k : Int) - 1) = u) W => l01In_is' h W)
                cases hin : inB v 0 ((k : Int) - 1) with
                | false =>
                  have hNB : NB = false := HNK.out (allIB_no hd (kidOk_lo hin))
                  subst hNB
                  have HI2 := Lib.hid (HI.out _ hin)
                  clear hd HNA HNK hin HA HI
                  go_wp2_with fail
                  refine (HI2.out _).mono ?_
                  rintro e w1 ⟨rfl, rfl⟩
                  go_wp2
                  go_ret
                  exact ⟨rfl, hbw⟩
                | true =>
                  have HI2 := Lib.hid (HI.out _ hin)
                  have HD := Lib.hid hd
                  have HINV := Lib.hid hin
                  clear hd HI hin
                  go_wp2_with fail
                  refine (HI2.out _).mono ?_
                  rintro e w1 ⟨rfl, rfl⟩
                  go_wp2
                  clear HI2
                  go_loopw [9] (fun i w2 => ∃ s : Nat, s ≤ t ∧ i = .int .i64 s ∧ Hid ((x.kids.take s).contains v = false) ∧ Blk w2 w.heap.size 48 #[.int .i64 x.kind, .string x.text, .slice (some ⟨b5, off5, none⟩) x.kids.length c2, .bool x.blank] ∧ Below w.heap.size w w2) (fun i _ => t - (intOf i).toNat)
                  case atStart => exact ⟨0, Nat.zero_le _, rfl, (show _ = _ by simp), K, hbw⟩
                  case round =>
                    clear K hbw kz k2 cv hblt5
                    obtain ⟨s, hst, rfl, HC, K, hbw⟩ := hrel
                    have kz := K.lt
                    have k2 := K.cell 2
                    simp only [List.getElem?_toArray, List.getElem?_cons_zero, List.getElem?_cons_succ] at k2
                    by_cases hlt2 : s < t
                    · obtain ⟨u, hu⟩ : ∃ d, x.kids[s]? = some d := ⟨_, List.getElem?_eq_getElem (by omega)⟩
                      obtain ⟨b6, off6, e6, hblt6, cu⟩ := int_at (HXR.out.below hbw) (by omega) hu
                      injection e6 with e6
                      injection e6 with e61 e62
                      subst e61; subst e62
                      obtain ⟨b7, off7, e7, hblt7, cv⟩ := int_at (HXR.out.below hbw) hlt HD.out
                      injection e7 with e7
                      injection e7 with e71 e72
                      subst e71; subst e72
                      have gs : (s : Int) < x.kids.length := by omega
                      have gt : (t : Int) < x.kids.length := by omega
                      cases heq : (v == u) with
                      | true =>
                        have hNB : NB = false := HNK.out (allIB_no HD.out (kidOk_dup (by
                          rw [List.contains_iff_exists_mem_beq]
                          exact ⟨u, List.mem_of_getElem? (i := s) (by rw [List.getElem?_take, if_pos hlt2]; exact hu), heq⟩)))
                        subst hNB
                        rw [beq_iff_eq] at heq
                        subst heq
                        clear HNA HNK HA HC hu
                        go_wp2
                        go_quiet (fail)
                        go_wp2
                        go_ret
                        exact ⟨rfl, (by repeat' (first | (with_reducible exact Below.refl _ _) | (with_reducible assumption) | (with_reducible refine below_drewN ?_ _) | (with_reducible refine Below.drew ?_) | (with_reducible refine Below.alloc ?_ ?_ _) | (with_reducible refine Below.setCell ?_ ?_ _) | go_size))⟩
                      | false =>
                        have HC2 : Hid ((x.kids.take (s + 1)).contains v = false) := (show _ = _ by
                          rw [List.take_add_one, hu]
                          have := HC.out
                          simp only [List.contains_eq_mem] at this ⊢
                          simp at this heq ⊢
                          exact ⟨this, heq⟩)
                        clear HNA HNK HA HC hu
                        go_wp2
                        go_quiet (fail)
                        go_wp2
                        go_roundw
                        case rel => exact ⟨s + 1, by omega, by go_num, HC2, K, (by repeat' (first | (with_reducible exact Below.refl _ _) | (with_reducible assumption) | (with_reducible refine below_drewN ?_ _) | (with_reducible refine Below.drew ?_) | (with_reducible refine Below.alloc ?_ ?_ _) | (with_reducible refine Below.setCell ?_ ?_ _) | go_size))⟩
                        case measure => simp [intOf]; omega
                    · obtain rfl : s = t := by omega
                      have hA2 := Lib.hid (allI_step HA.out HD.out (kidOk_yes HINV.out HC.out))
                      clear HNA HNK HA HC
                      go_wp2
                      go_roundw
                      case rel => exact ⟨s + 1, by omega, by go_num, hA2, K, hbw⟩
                      case measure => simp [intOf]; omega
              · obtain rfl : t = x.kids.length := by omega
                have hkb := allI_all HA.out (Nat.le_refl _)
                have HNB2 := Lib.hid (HNA.out hkb)
                have HIN : Hid (∀ v ∈ x.kids, 0 ≤ v ∧ v < (n : Int)) := (show ∀ v ∈ x.kids, _ from fun v hv => by
                  obtain ⟨j, hj⟩ := List.mem_iff_getElem?.1 hv
                  have h1 := allIB_at hkb hj
                  unfold kidOk at h1
                  rw [Bool.and_eq_true] at h1
                  have h2 := of_decide_eq_true h1.1
                  exact ⟨h2.1, by omega⟩)
                clear HNA HNK HA hkb
                go_wp2
                go_loopw [10] (fun i wr => ∃ t : Nat, t ≤ x.kids.length ∧ i = .int .i64 t ∧ Hid (AllI (kidFit ps x) x.kids t) ∧ Blk wr w.heap.size 48 #[.int .i64 x.kind, .string x.text, .slice A2 x.kids.length c2, .bool x.blank] ∧ Below w.heap.size w wr) (fun i _ => x.kids.length - (intOf i).toNat)
                case atStart => exact ⟨0, Nat.zero_le _, rfl, allI_zero _ _, K, hbw⟩
                case round =>
                  clear K hbw kz k2
                  obtain ⟨t, htm, rfl, HA, K, hbw⟩ := hrel
                  have kz := K.lt
                  have k2 := K.cell 2
                  simp only [List.getElem?_toArray, List.getElem?_cons_zero, List.getElem?_cons_succ] at k2
                  by_cases hlt : t < x.kids.length
                  · obtain ⟨v, hd⟩ : ∃ d, x.kids[t]? = some d := ⟨_, List.getElem?_eq_getElem hlt⟩
                    have hv := HIN.out v (List.mem_of_getElem? hd)
                    obtain ⟨q, rfl⟩ := Int.eq_ofNat_of_zero_le hv.1
                    have hqn : q < n := by omega
                    have g0 : (0 : Int) ≤ (q : Int) := by omega
                    have g1 : (q : Int) < n := by omega
                    have gt : (t : Int) < x.kids.length := by omega
                    obtain ⟨b5, off5, rfl, hblt5, cv⟩ := int_at (HXR.out.below hbw) hlt hd
                    obtain ⟨y, hy⟩ := HP.out.get hqn
                    obtain ⟨b3, off3, A3, c3, e3, hblt3, y0, y1, y2, y3, hyr⟩ := (HP.out.below hbw).at_ hqn hy
                    injection e3 with e3
                    injection e3 with e31 e32
                    subst e31; subst e32
                    have hyb := (hb.out y (List.mem_of_getElem? hy)).2
                    have HY := Lib.hid hy
                    have HD := Lib.hid hd
                    have HF := Lib.hid (fun (hcall : y.kind = 5 → ∃ (r : Nat) (js : List Int), y.kids = (r : Int) :: js ∧ r < n) (u : Bool) (h : fitB ps x.kind x.kids.length t (q : Int) = u) (W : World) (hW : Below w.heap.size w W) => show Calls Tryz.prog 143 #[.slice (some ⟨b, off, none⟩) n c, .int .i64 k, .int .i64 t] W fun e w' => e = .returned (.bool u) ∧ Below W.heap.size W w' by rw [← h]; exact l05Fits_any _ n c ps k t x y q W hn (HP.out.below hW) hb hk HX hlt HD hqn HY hcall HKD.out)
                    have hb1 : Below w.heap.size w (wr.alloc (.cells #[.int .i64 y.kind, .string y.text, .slice A3 y.kids.length c3, .bool y.blank] 48)) := (by repeat' (first | (with_reducible exact Below.refl _ _) | (with_reducible assumption) | (with_reducible refine below_drewN ?_ _) | (with_reducible refine Below.drew ?_) | (with_reducible refine Below.alloc ?_ ?_ _) | (with_reducible refine Below.setCell ?_ ?_ _) | go_size))
                    clear hv hy hd
                    by_cases h5 : y.kind = 5
                    · cases hyk : y.kids with
                      | nil =>
                        have hNB : NB = false := by rw [HNB2.out]; exact allIB_no HD.out (by unfold kidFit; rw [callIn_bare HY.out h5 hyk]; rfl)
                        subst hNB
                        rw [hyk] at y2
                        rw [h5] at y0
                        clear HNB2 HA HF hyr hyk hb1
                        go_wp2
                        go_ret
                        exact ⟨rfl, (by repeat' (first | (with_reducible exact Below.refl _ _) | (with_reducible assumption) | (with_reducible refine below_drewN ?_ _) | (with_reducible refine Below.drew ?_) | (with_reducible refine Below.alloc ?_ ?_ _) | (with_reducible refine Below.setCell ?_ ?_ _) | go_size))⟩
                      | cons j js =>
                        have hyz : 0 < y.kids.length := by rw [hyk]; simp
                        have hj0 : y.kids[0]? = some j := by rw [hyk]; rfl
                        obtain ⟨b4, off4, rfl, hblt4, cj⟩ := int_at hyr hyz hj0
                        simp only [Nat.add_zero] at cj
                        have i1 : ((y.kids.length : Int) == 0) = false := by rw [beq_eq_false_iff_ne]; omega
                        have i2 : (0 : Int) < y.kids.length := by omega
                        have HI := Lib.hid (fun (u : Bool) (h : inB j 0 ((n : Int) - 1) = u) W => l01In_is' h W)
                        have hci := callIn_some HY.out h5 hyk
                        rw [HL.out] at hci
                        have h5' := h5
                        rw [h5] at y0
                        cases hin : inB j 0 ((n : Int) - 1) with
                        | false =>
                          have hNB : NB = false := by rw [HNB2.out]; exact allIB_no HD.out (by unfold kidFit; rw [hci, hin]; rfl)
                          subst hNB
                          have HI2 := Lib.hid (HI.out _ hin)
                          clear HNB2 HA HF hyr hyk hb1 HI hin hci hj0
                          go_wp2_with fail
                          refine (HI2.out _).mono ?_
                          rintro e w1 ⟨rfl, rfl⟩
                          go_wp2
                          go_ret
                          exact ⟨rfl, (by repeat' (first | (with_reducible exact Below.refl _ _) | (with_reducible assumption) | (with_reducible refine below_drewN ?_ _) | (with_reducible refine Below.drew ?_) | (with_reducible refine Below.alloc ?_ ?_ _) | (with_reducible refine Below.setCell ?_ ?_ _) | go_size))⟩
                        | true =>
                          have hjb := of_decide_eq_true hin
                          have HI2 := Lib.hid (HI.out _ hin)
                          have hcall : y.kind = 5 → ∃ (r : Nat) (js : List Int), y.kids = (r : Int) :: js ∧ r < n := fun _ => by
                            obtain ⟨r, hr⟩ := Int.eq_ofNat_of_zero_le hjb.1
                            exact ⟨r, js, by rw [hyk, hr], by omega⟩
                          cases hf : fitB ps x.kind x.kids.length t (q : Int) with
                          | false =>
                            have hNB : NB = false := by rw [HNB2.out]; exact allIB_no HD.out (by unfold kidFit; rw [hf, Bool.and_false])
                            subst hNB
                            have HF2 := Lib.hid (HF.out hcall _ hf)
                            clear HNB2 HA HF hyr hyk HI hin hci hj0 hjb hcall hf
                            go_wp2_with fail
                            refine (HI2.out _).mono ?_
                            rintro e w1 ⟨rfl, rfl⟩
                            rw [h5'] at hb1
                            go_wp2_with fail
                            refine (HF2.out _ hb1).mono ?_
                            rintro e w6 ⟨rfl, h6⟩
                            go_wp2
                            go_ret
                            exact ⟨rfl, below_next hb1 h6⟩
                          | true =>
                            have hA2 := Lib.hid (allI_step HA.out HD.out (by unfold kidFit; rw [hci, hin, hf]; rfl))
                            have HF2 := Lib.hid (HF.out hcall _ hf)
                            clear HNB2 HA HF hyr hyk HI hin hci hj0 hjb hcall hf
                            go_wp2_with fail
                            refine (HI2.out _).mono ?_
                            rintro e w1 ⟨rfl, rfl⟩
                            rw [h5'] at hb1
                            go_wp2_with fail
                            refine (HF2.out _ hb1).mono ?_
                            rintro e w6 ⟨rfl, h6⟩
                            have K6 := (K.alloc _).next h6
                            go_wp2
                            go_roundw
                            case rel => exact ⟨t + 1, by omega, by go_num, hA2, K6, below_next hb1 h6⟩
                            case measure => simp [intOf]; omega
                    · have e5 : (y.kind == 5) = false := by rw [beq_eq_false_iff_ne]; exact h5
                      have hci := callIn_other HY.out h5
                      have hcall : y.kind = 5 → ∃ (r : Nat) (js : List Int), y.kids = (r : Int) :: js ∧ r < n := fun h => absurd h h5
                      cases hf : fitB ps x.kind x.kids.length t (q : Int) with
                      | false =>
                        have hNB : NB = false := by rw [HNB2.out]; exact allIB_no HD.out (by unfold kidFit; rw [hf, Bool.and_false])
                        subst hNB
                        have HF2 := Lib.hid (HF.out hcall _ hf)
                        clear HNB2 HA HF hyr hci hcall hf h5
                        go_wp2_with fail
                        refine (HF2.out _ hb1).mono ?_
                        rintro e w6 ⟨rfl, h6⟩
                        go_wp2
                        go_ret
                        exact ⟨rfl, below_next hb1 h6⟩
                      | true =>
                        have hA2 := Lib.hid (allI_step HA.out HD.out (by unfold kidFit; rw [hci, hf]; rfl))
                        have HF2 := Lib.hid (HF.out hcall _ hf)
                        clear HNB2 HA HF hyr hci hcall hf h5
                        go_wp2_with fail
                        refine (HF2.out _ hb1).mono ?_
                        rintro e w6 ⟨rfl, h6⟩
                        have K6 := (K.alloc _).next h6
                        go_wp2
                        go_roundw
                        case rel => exact ⟨t + 1, by omega, by go_num, hA2, K6, below_next hb1 h6⟩
                        case measure => simp [intOf]; omega
                  · obtain rfl : t = x.kids.length := by omega
                    have hNB : NB = true := by rw [HNB2.out]; exact allI_all HA.out (Nat.le_refl _)
                    subst hNB
                    clear HNB2 HA
                    go_wp2
                    go_ret
                    exact ⟨rfl, hbw⟩
theorem specNodeOk_any (A : Option Addr) (n c : Nat) (ps : List PN) (k : Int) (w : World) (hn : n ≤ 1048576) (hps : Nps w A n ps) (hb : Hid (PNs ps)) :
    Calls Tryz.prog 104 #[.slice A n c, .int .i64 k] w fun e w' => e = .returned (.bool (if 0 ≤ k ∧ k < (n : Int) then specNB ps k.toNat else false)) ∧ Below w.heap.size w w' := by
  by_cases hk : 0 ≤ k ∧ k < (n : Int)
  · obtain ⟨q, rfl⟩ := Int.eq_ofNat_of_zero_le hk.1
    rw [if_pos hk, Int.toNat_natCast]
    exact specNodeOk_in A n c ps q w hn hps hb (by omega)
  · rw [if_neg hk]
    exact specNodeOk_out A n c k w hn hk
end Go.Proofs.YtpfanhheodiamaaGreatDoor
