/- The walk of the law FormatKinds (chapter 21). -/
import Derived.Test.YtmhciidliicheaaDoorFmt21k
import Derived.Test.YtmhciidliicheaaDoorWork21
import Derived.OpenShut
import Derived.BigQuiet
import Derived.IntWalk
import Derived.Deep.DeepCutAuto
namespace Go.Proofs.YtmhciidliicheaaDoor
open Go.RowKit Go.Lib
set_option linter.unusedVariables false

theorem str_mid (s : ByteArray) (k m : Nat) (hm : m ≤ s.size) : s.extract k m = str (((P4.bl s).drop k).take (m - k)) := by
  apply ByteArray.ext
  apply Array.toList_inj.mp
  show P4.bl (s.extract k m) = _
  unfold P4.bl
  rw [ByteArray.data_extract, Array.toList_extract]
  rfl
/-- the strings that are nothing, made one by one -/
structure KStr (SX SY XS XY U1 T0 T1 T3 T5 U3 T9 T10 T11 T13 : ByteArray) : Prop where
  a1 : ∀ W, (Op.stringOp .add XY ⟨#[47]⟩).run Tryd.prog W = .ok (.string U1) W
  a2 : ∀ W, (Op.stringOp .add U1 SX).run Tryd.prog W = .ok (.string T0) W
  a3 : ∀ W, (Op.stringOp .add ⟨#[47]⟩ SX).run Tryd.prog W = .ok (.string T1) W
  a4 : ∀ W, (Op.stringOp .add SX ⟨#[37, 122]⟩).run Tryd.prog W = .ok (.string T3) W
  a5 : ∀ W, (Op.stringOp .add ⟨#[37, 115, 47]⟩ SX).run Tryd.prog W = .ok (.string T5) W
  a6 : ∀ W, (Op.stringOp .add ⟨#[60]⟩ SX).run Tryd.prog W = .ok (.string U3) W
  a7 : ∀ W, (Op.stringOp .add U3 ⟨#[62]⟩).run Tryd.prog W = .ok (.string T9) W
  a8 : ∀ W, (Op.stringOp .add SX ⟨#[47, 43, 48, 49]⟩).run Tryd.prog W = .ok (.string T10) W
  a9 : ∀ W, (Op.stringOp .add ⟨#[43, 48, 49, 47]⟩ SX).run Tryd.prog W = .ok (.string T11) W
  a10 : ∀ W, (Op.stringOp .add ⟨#[32]⟩ SX).run Tryd.prog W = .ok (.string T13) W
  a11 : True
  no : ∀ (k : Nat) t, [T0, T1, XS, T3, ⟨#[37, 122, 47, 37, 122]⟩, T5, ⟨#[37, 37, 115]⟩, ⟨#[37, 83]⟩, ⟨#[37]⟩, T9, T10, T11, ⟨#[43, 48, 49, 47, 43, 48, 50, 47, 43, 48, 51]⟩, T13][k]? = some t → P21.kind (P4.bl t) = 0 ∧ t.size ≤ 100
theorem kStr {x y : List UInt8} (hx : P21.Wd x) (hy : P21.Wd y) : ∃ U1 T0 T1 T3 T5 U3 T9 T10 T11 T13, KStr (str x) (str y) (str (x ++ [47])) (str (x ++ [47] ++ y)) U1 T0 T1 T3 T5 U3 T9 T10 T11 T13 := by
  have l1 := hx.2.1
  have l2 := hy.2.1
  refine ⟨str (x ++ [47] ++ y ++ [47]), str (x ++ [47] ++ y ++ [47] ++ x), str ([47] ++ x), str (x ++ [37, 122]), str ([37, 115, 47] ++ x), str ([60] ++ x), str ([60] ++ x ++ [62]), str (x ++ [47, 43, 48, 49]), str ([43, 48, 49, 47] ++ x), str ([32] ++ x), ?_, ?_, ?_, ?_, ?_, ?_, ?_, ?_, ?_, ?_, trivial, ?_⟩
  · exact cat_run _ [47] (by simp; omega)
  · exact cat_run _ x (by simp; omega)
  · exact cat_run [47] x (by simp; omega)
  · exact cat_run x [37, 122] (by simp; omega)
  · exact cat_run [37, 115, 47] x (by simp; omega)
  · exact cat_run [60] x (by simp; omega)
  · exact cat_run ([60] ++ x) [62] (by simp; omega)
  · exact cat_run x [47, 43, 48, 49] (by simp; omega)
  · exact cat_run [43, 48, 49, 47] x (by simp; omega)
  · exact cat_run [32] x (by simp; omega)
  · intro k t ht
    have hp := P21.nots_kind hx hy
    unfold P21.nots at hp
    simp only [List.forall_mem_cons] at hp
    obtain ⟨p0, p1, p2, p3, p4, p5, p6, p7, p8, p9, p10, p11, p12, p13, _⟩ := hp
    have hm := List.mem_of_getElem? ht
    simp only [List.mem_cons, List.not_mem_nil, or_false] at hm
    rcases hm with rfl | rfl | rfl | rfl | rfl | rfl | rfl | rfl | rfl | rfl | rfl | rfl | rfl | rfl
    · exact ⟨p0, by rw [str_size]; simp; omega⟩
    · exact ⟨p1, by rw [str_size]; simp; omega⟩
    · exact ⟨p2, by rw [str_size]; simp; omega⟩
    · exact ⟨p3, by rw [str_size]; simp; omega⟩
    · exact ⟨p4, by decide⟩
    · exact ⟨p5, by rw [str_size]; simp; omega⟩
    · exact ⟨p6, by decide⟩
    · exact ⟨p7, by decide⟩
    · exact ⟨p8, by decide⟩
    · exact ⟨p9, by rw [str_size]; simp; omega⟩
    · exact ⟨p10, by rw [str_size]; simp; omega⟩
    · exact ⟨p11, by rw [str_size]; simp; omega⟩
    · exact ⟨p12, by decide⟩
    · exact ⟨p13, by rw [str_size]; simp; omega⟩
theorem conv21 (c : Int) (B : Nat) (W : World) (h : W.cell? ⟨B, 0, none⟩ = some (.int .u8 c)) :
    (convert 22 9 (.slice (some ⟨B, 0, none⟩) 1 1)).run Tryd.prog W = .ok (.string (str [UInt8.ofNat c.toNat])) W := by
  rw [run_convert_bytes_string W _ _ 5 _ _ _ Tryd.underlying22 Tryd.underlying5 Tryd.underlying9]
  have := run_bytesToString (P := Tryd.prog) W ⟨B, 0, none⟩ 1 1 [c] (by simp [go_sem, h])
  have e : str [UInt8.ofNat c.toNat] = ByteArray.empty.push (UInt8.ofNat c.toNat) := by
    apply ByteArray.ext
    simp [str]
  rw [e]
  simpa using this
/-- three letters and a byte -/
theorem last21 {x : List UInt8} (hx : P21.Wd x) {c : Int} (hc : 0 ≤ c ∧ c ≤ 255) : ∃ (X3 SC S4 : ByteArray) (KS : Int), (str x).extract 0 3 = X3 ∧ str [UInt8.ofNat c.toNat] = SC ∧ (∀ W, (Op.stringOp .add X3 SC).run Tryd.prog W = .ok (.string S4) W) ∧ P21.kind (P4.bl S4) = KS ∧ S4.size ≤ 10 ∧ ((65 ≤ c ∧ c ≤ 90 ∨ 97 ≤ c ∧ c ≤ 122) → KS = 1) ∧ (¬ (65 ≤ c ∧ c ≤ 90 ∨ 97 ≤ c ∧ c ≤ 122) → KS ≠ 1) := by
  have hk := P21.last_kind hx (UInt8.ofNat c.toNat)
  have hn : (UInt8.ofNat c.toNat).toNat = c.toNat := by rw [UInt8.toNat_ofNat']; omega
  have hl : P21.isL (UInt8.ofNat c.toNat) = decide (65 ≤ c ∧ c ≤ 90 ∨ 97 ≤ c ∧ c ≤ 122) := by
    unfold P21.isL P21.isLr
    rw [hn, Bool.eq_iff_iff]
    simp only [Bool.or_eq_true, Bool.and_eq_true, decide_eq_true_eq]
    omega
  rw [hl] at hk
  refine ⟨str (x.take 3), _, str (x.take 3 ++ [UInt8.ofNat c.toNat]), _, str_take _ _, rfl, cat_run _ _ (by simp; omega), rfl, by rw [str_size]; simp; omega, fun h => ?_, fun h q => ?_⟩
  · rw [decide_eq_true h, decide_eq_true_eq] at hk; exact hk
  · rw [decide_eq_false h, decide_eq_false_iff_not] at hk; exact hk q
set_option maxRecDepth 100000 in
set_option maxHeartbeats 16000000 in
theorem walkFormatKinds (A : Option Addr) (ca : Nat) (L : List Int) (B : Option Addr) (cb : Nat) (L2 : List Int) (at_ c : Int) (w : World)
    (hl : L.length ≤ maxLen) (hF : CellsIn 1 u8Cell w A L) (hG : ∀ n ∈ L, 0 ≤ n ∧ n ≤ 255)
    (hl2 : L2.length ≤ maxLen) (hF2 : CellsIn 1 u8Cell w B L2) (hG2 : ∀ n ∈ L2, 0 ≤ n ∧ n ≤ 255)
    (hat : 0 ≤ at_ ∧ at_ ≤ 255) (hc : 0 ≤ c ∧ c ≤ 255) (hv : Vars21 w) :
    Calls Tryd.prog 5 #[.slice A L.length ca, .slice B L2.length cb, .int .u8 at_, .int .u8 c] w fun e w' => e = .returned (.bool true) ∧ Below w.heap.size w w' := by
  have cW := Lib.hid (word21_any A ca L w hl hF hG)
  have cW2 := Lib.hid (word21_any B cb L2 w hl2 hF2 hG2)
  have HV := Lib.hid hv
  clear hl hF hG hl2 hF2 hG2 hv
  generalize L.length = NA at cW ⊢
  generalize L2.length = NB at cW2 ⊢
  obtain ⟨t0, t1⟩ := hat
  obtain ⟨c0, c1⟩ := hc
  go_enter Tryd.func5, Tryd.ntmps5
  go_wp2_with fail
  refine cW.out.mono ?_
  rintro e w1 ⟨⟨x, hx, rfl⟩, rfl⟩
  go_wp2_with fail
  refine cW2.out.mono ?_
  rintro e w2 ⟨⟨y, hy, rfl⟩, rfl⟩
  clear cW cW2
  have hN3 : 3 ≤ x.length := hx.1
  have hN6 : x.length ≤ 6 := hx.2.1
  obtain ⟨M, hM, hM3, hM5, hMN⟩ : ∃ M : Nat, min (x.length : Int) 5 = (M : Int) ∧ 3 ≤ M ∧ M ≤ 5 ∧ M ≤ x.length := ⟨min x.length 5, by omega, by omega, by omega, by omega⟩
  have hM0 : (0 : Int) < (M : Int) + 1 := by omega
  have hMz : ¬ ((M : Int) + 1 = 0) := by omega
  have hM1 : (M : Int) ≤ 5 := by omega
  obtain ⟨K, hK, hKM⟩ : ∃ K : Nat, at_.tmod ((M : Int) + 1) = (K : Int) ∧ K ≤ M := by
    have h1 := Int.tmod_lt_of_pos at_ hM0
    have h2 : 0 ≤ at_.tmod ((M : Int) + 1) := Int.tmod_nonneg _ t0
    exact ⟨(at_.tmod ((M : Int) + 1)).toNat, by omega, by omega⟩
  have hKi : (K : Int) ≤ (M : Int) := by clear hK; omega
  have hsx : (str x).size = x.length := rfl
  have hMx : (M : Int) ≤ ((str x).size : Int) := by clear hK; rw [hsx]; omega
  have hKx : (K : Int) ≤ ((str x).size : Int) := by clear hK; rw [hsx]; omega
  have e1 : (str x).extract 0 K = str (x.take K) := str_take (str x) K
  have e2 : (str x).extract K M = str ((x.drop K).take (M - K)) := str_mid (str x) K M (by rw [hsx]; exact hMN)
  have a1 : ∀ W, (Op.stringOp .add (str (x.take K)) ⟨#[37, 115]⟩).run Tryd.prog W = .ok (.string (str (x.take K ++ [37, 115]))) W := cat_run (x.take K) [37, 115] (by clear hK; simp; omega)
  have a2 : ∀ W, (Op.stringOp .add (str (x.take K ++ [37, 115])) (str ((x.drop K).take (M - K)))).run Tryd.prog W = .ok (.string (str (x.take K ++ [37, 115] ++ (x.drop K).take (M - K)))) W := cat_run _ _ (by clear hK; simp; omega)
  have hyl := hy.2.1
  have b1 : ∀ W, (Op.stringOp .add (str x) ⟨#[47]⟩).run Tryd.prog W = .ok (.string (str (x ++ [47]))) W := cat_run x [47] (by clear hK; simp; omega)
  have b2 : ∀ W, (Op.stringOp .add (str (x ++ [47])) (str y)).run Tryd.prog W = .ok (.string (str (x ++ [47] ++ y))) W := cat_run _ _ (by clear hK; simp; omega)
  have exy : x ++ [47] ++ y = x ++ 47 :: y := by simp
  have ear : x.take K ++ [37, 115] ++ (x.drop K).take (M - K) = x.take K ++ 37 :: 115 :: (x.drop K).take (M - K) := by simp
  have kAR : P21.kind (x.take K ++ [37, 115] ++ (x.drop K).take (M - K)) = 3 := by
    rw [ear]
    have hmm : min x.length 5 = M := by clear hK; omega
    have q := P21.around_kind hx K (by rw [hmm]; exact hKM)
    rwa [hmm] at q
  have kXY : P21.kind (x ++ [47] ++ y) = 2 := by rw [exy]; exact P21.two_kind hx hy
  have pXY : P21.parts (x ++ [47] ++ y) = (x, y, true) := by rw [exy]; exact P21.parts_xy hx hy
  have cK : ∀ (l : List UInt8) (n : Int), P21.kind l = n → l.length ≤ 1000 → ∀ W, Below w2.heap.size w2 W → Calls Tryd.prog 18 #[.string (str l)] W fun e w' => e = .returned (.int .i64 n) ∧ Below W.heap.size W w' := fun l n hn hl W h => by
    have q := kind_any (str l) W (by rw [str_size]; omega) (HV.out.below h)
    rw [show P4.bl (str l) = l from str_data l, hn] at q; exact q
  have cKx := Lib.hid (cK x 1 (P21.word_kind hx) (by clear hK; omega))
  have cKxy := Lib.hid (cK _ 2 kXY (by clear hK; simp; omega))
  have cKar := Lib.hid (cK _ 3 kAR (by clear hK; simp; omega))
  have cKz : Hid (∀ W, Below w2.heap.size w2 W → Calls Tryd.prog 18 #[.string ⟨#[37, 122]⟩] W fun e w' => e = .returned (.int .i64 4) ∧ Below W.heap.size W w') := Lib.hid (cK [37, 122] 4 P21.kind_z (by decide))
  have cP : Hid (∀ W, Below w2.heap.size w2 W → Calls Tryd.prog 25 #[.string (str (x ++ [47] ++ y))] W fun e w' => e = .returned (.tuple #[.string (str x), .string (str y), .bool true]) ∧ Below W.heap.size W w') := Lib.hid fun W h => by
    have q := parts_any (str (x ++ [47] ++ y)) W (by rw [str_size]; clear hK; simp; omega) (HV.out.below h)
    rw [show P4.bl (str (x ++ [47] ++ y)) = _ from str_data _, pXY] at q; exact q
  have cKl : Hid (x.length = 6 → ∃ (Q1 Q2 Q3 : ByteArray), (str x).extract 0 K = Q1 ∧ (str x).extract K (str x).size = Q2 ∧ (∀ W, (Op.stringOp .add Q1 ⟨#[37, 115]⟩).run Tryd.prog W = .ok (.string (str (x.take K ++ [37, 115]))) W) ∧ (∀ W, (Op.stringOp .add (str (x.take K ++ [37, 115])) Q2).run Tryd.prog W = .ok (.string Q3) W) ∧ ∀ W, Below w2.heap.size w2 W → Calls Tryd.prog 18 #[.string Q3] W fun e w' => e = .returned (.int .i64 0) ∧ Below W.heap.size W w') := Lib.hid fun h6 => by
    have e3 : x.take K ++ [37, 115] ++ x.drop K = x.take K ++ 37 :: 115 :: x.drop K := by simp
    refine ⟨str (x.take K), str (x.drop K), str (x.take K ++ [37, 115] ++ x.drop K), str_take _ _, str_drop _ _, a1, cat_run _ _ (by clear hK; simp; omega), cK _ 0 ?_ (by clear hK; simp; omega)⟩
    rw [e3]
    exact P21.around_long hx h6 K (by clear hK; omega)
  have hszI : ((str x).size : Int) ≤ 6 := by clear hK; rw [hsx]; omega
  have hM' : min ((str x).size : Int) 5 = (M : Int) := hM
  have HNOT := Lib.hid (kStr hx hy)
  have HZ : Hid ((3 : Int) ≤ ((str x).size : Int)) := Lib.hid (by rw [hsx]; omega)
  have HX := Lib.hid hx
  have HY := Lib.hid hy
  have HN := Lib.hid (And.intro hN3 (And.intro hN6 (And.intro hMN (And.intro hM3 hKM))))
  clear hx hy hM hsx hN3 hN6 hMN hKM hM3 hM5 cK kAR kXY pXY exy ear hyl
  generalize str (x ++ [47] ++ y) = XY at *
  generalize str (x ++ [47]) = XS at *
  generalize str (x.take K ++ [37, 115] ++ (x.drop K).take (M - K)) = AR at *
  generalize str (x.take K ++ [37, 115]) = P3 at *
  generalize str ((x.drop K).take (M - K)) = P2 at *
  generalize str (x.take K) = P1 at *
  generalize hS : str x = SX at *
  generalize hS2 : str y = SY at *
  have HSX := Lib.hid hS
  have HSY := Lib.hid hS2
  clear hS hS2
  go_wp2_with fail
  go_region
  have hb0 : Below w2.heap.size w2 w2.drew := (Below.refl _ _).drew
  clear e1 e2 a1 a2 hK
  go_wp2_with fail
  refine (cP.out _ hb0).mono ?_
  rintro e w3 ⟨rfl, hc3⟩
  have hb3 := hb0.trans (hc3.mono hb0.size)
  clear hc3 hb0 cP
  go_wp2_with fail
  refine (cKx.out _ hb3).mono ?_
  rintro e w4 ⟨rfl, hc3⟩
  have hb4 := hb3.trans (hc3.mono hb3.size)
  clear hc3 hb3 cKx
  go_wp2_with fail
  refine (cKxy.out _ hb4).mono ?_
  rintro e w5 ⟨rfl, hc3⟩
  have hb5 := hb4.trans (hc3.mono hb4.size)
  clear hc3 hb4 cKxy
  go_wp2_with fail
  refine (cKar.out _ hb5).mono ?_
  rintro e w6 ⟨rfl, hc3⟩
  have hb6 := hb5.trans (hc3.mono hb5.size)
  clear hc3 hb5 cKar
  go_wp2_with fail
  refine (cKz.out _ hb6).mono ?_
  rintro e w7 ⟨rfl, hc3⟩
  have hb7 := hb6.trans (hc3.mono hb6.size)
  clear hc3 hb6 cKz
  go_wp2_with fail
  have HSZ : Hid (SX.size = x.length) := Lib.hid (by rw [← HSX.out]; rfl)
  go_upto_region 8 with fail
  go_cut [105] (fun s105 wx => s105 = .bool false ∧ Below w2.heap.size w2 wx)
-- END OF THE HEAD
  case first =>
    by_cases h6 : x.length = 6
    · obtain ⟨Q1, Q2, Q3, p1, p2, p3, p4, p5⟩ := cKl.out h6
      have b6 : ((SX.size : Int) == 6) = true := by rw [HSZ.out, h6]; rfl
      have K0 : (0 : Int) ≤ (K : Int) := by omega
      have C5 := Lib.hid p5
      clear h6 HSZ b1 b2 hMz hM0 hM1 hM' cKl HX HY HN HSX HSY HZ t0 t1 c0 c1 HV p5 HNOT hMx
      go_region_held3 (fun W => Below w2.heap.size w2 W) (first | exact hb7.drew | assumption) (first | (go_at_call 18; refine (C5.out _ hb7.drew).mono ?_; rintro e w8 ⟨rfl, hc⟩; have hb8 := hb7.drew.trans (hc.mono hb7.drew.size)))
      all_goals
        go_wp2_with fail
        go_meet
        exact ⟨rfl, hb8⟩
    · have b6 : ((SX.size : Int) == 6) = false := by rw [beq_eq_false_iff_ne, HSZ.out]; omega
      have b7 : decide ((SX.size : Int) = 6) = false := decide_eq_false (by rw [HSZ.out]; omega)
      clear h6 HSZ b1 b2 hMz hM0 hM1 hKi hM' cKl HX HY HN HSX HSY HZ t0 t1 c0 c1 HV HNOT
      go_quiet (fail)
      go_wp2_with fail
      go_meet
      exact ⟨rfl, below_drewN hb7 _⟩
  case rest =>
    obtain ⟨rfl, hbc⟩ := hcut
    clear cKl hb7 hMz hM0 hM1 hKi hM' HN t0 t1 hKx hMx HSZ hszI
    obtain ⟨U1, T0, T1, T3, T5, U3, T9, T10, T11, T13, hK⟩ := HNOT.out
    have HK := Lib.hid hK.no
    have d1 := hK.a1
    have d2 := hK.a2
    have d3 := hK.a3
    have d4 := hK.a4
    have d5 := hK.a5
    have d6 := hK.a6
    have d7 := hK.a7
    have d8 := hK.a8
    have d9 := hK.a9
    have d10 := hK.a10
    have d11 := hK.a11
    clear hK HNOT
    have hE := Blk.new wc 9 #[.string T0, .string T1, .string XS, .string T3, .string ⟨#[37, 122, 47, 37, 122]⟩, .string T5, .string ⟨#[37, 37, 115]⟩, .string ⟨#[37, 83]⟩, .string ⟨#[37]⟩, .string T9, .string T10, .string T11, .string ⟨#[43, 48, 49, 47, 43, 48, 50, 47, 43, 48, 51]⟩, .string T13]
    have hb0 := hbc.alloc hbc.size (.cells #[.string T0, .string T1, .string XS, .string T3, .string ⟨#[37, 122, 47, 37, 122]⟩, .string T5, .string ⟨#[37, 37, 115]⟩, .string ⟨#[37, 83]⟩, .string ⟨#[37]⟩, .string T9, .string T10, .string T11, .string ⟨#[43, 48, 49, 47, 43, 48, 50, 47, 43, 48, 51]⟩, .string T13] 9)
    clear hbc
    go_wp2_with fail
    clear b1 b2 d1 d2 d3 d4 d5 d6 d7 d8 d9 d10 d11
    generalize wc.heap.size = GA at *
    generalize wc.alloc (.cells #[.string T0, .string T1, .string XS, .string T3, .string ⟨#[37, 122, 47, 37, 122]⟩, .string T5, .string ⟨#[37, 37, 115]⟩, .string ⟨#[37, 83]⟩, .string ⟨#[37]⟩, .string T9, .string T10, .string T11, .string ⟨#[43, 48, 49, 47, 43, 48, 50, 47, 43, 48, 51]⟩, .string T13] 9) = W0 at *
    go_loopw [132] (fun i wr => ∃ k : Nat, k ≤ 14 ∧ i = .int .i64 (k : Int) ∧ Blk wr GA 9 #[.string T0, .string T1, .string XS, .string T3, .string ⟨#[37, 122, 47, 37, 122]⟩, .string T5, .string ⟨#[37, 37, 115]⟩, .string ⟨#[37, 83]⟩, .string ⟨#[37]⟩, .string T9, .string T10, .string T11, .string ⟨#[43, 48, 49, 47, 43, 48, 50, 47, 43, 48, 51]⟩, .string T13] ∧ Below w2.heap.size w2 wr) (fun i _ => 14 - (intOf i).toNat)
    case atStart => exact ⟨0, by omega, rfl, hE, hb0⟩
    case round =>
      clear hE hb0
      obtain ⟨k, hk, rfl, hE, hb⟩ := hrel
      by_cases hlt : k < 14
      · obtain ⟨t, hf, hKt, hts⟩ : ∃ t : ByteArray, wr.cell? ⟨GA, k, none⟩ = some (.string t) ∧ P21.kind (P4.bl t) = 0 ∧ t.size ≤ 100 := by
          have hk14 : k = 0 ∨ k = 1 ∨ k = 2 ∨ k = 3 ∨ k = 4 ∨ k = 5 ∨ k = 6 ∨ k = 7 ∨ k = 8 ∨ k = 9 ∨ k = 10 ∨ k = 11 ∨ k = 12 ∨ k = 13 := by omega
          rcases hk14 with rfl | rfl | rfl | rfl | rfl | rfl | rfl | rfl | rfl | rfl | rfl | rfl | rfl | rfl
          · exact ⟨_, (hE.cell 0).trans rfl, HK.out 0 _ rfl⟩
          · exact ⟨_, (hE.cell 1).trans rfl, HK.out 1 _ rfl⟩
          · exact ⟨_, (hE.cell 2).trans rfl, HK.out 2 _ rfl⟩
          · exact ⟨_, (hE.cell 3).trans rfl, HK.out 3 _ rfl⟩
          · exact ⟨_, (hE.cell 4).trans rfl, HK.out 4 _ rfl⟩
          · exact ⟨_, (hE.cell 5).trans rfl, HK.out 5 _ rfl⟩
          · exact ⟨_, (hE.cell 6).trans rfl, HK.out 6 _ rfl⟩
          · exact ⟨_, (hE.cell 7).trans rfl, HK.out 7 _ rfl⟩
          · exact ⟨_, (hE.cell 8).trans rfl, HK.out 8 _ rfl⟩
          · exact ⟨_, (hE.cell 9).trans rfl, HK.out 9 _ rfl⟩
          · exact ⟨_, (hE.cell 10).trans rfl, HK.out 10 _ rfl⟩
          · exact ⟨_, (hE.cell 11).trans rfl, HK.out 11 _ rfl⟩
          · exact ⟨_, (hE.cell 12).trans rfl, HK.out 12 _ rfl⟩
          · exact ⟨_, (hE.cell 13).trans rfl, HK.out 13 _ rfl⟩
        have hki : (k : Int) < 14 := by omega
        have cP : Hid (∀ W, Below w2.heap.size w2 W → Calls Tryd.prog 25 #[.string t] W fun e w' => e = .returned (.tuple #[.string ⟨#[]⟩, .string ⟨#[]⟩, .bool false]) ∧ Below W.heap.size W w') := Lib.hid fun W h => by
          have q := parts_any t W (by omega) (HV.out.below h)
          rw [P21.parts_no hKt] at q
          exact q
        have cK0 : Hid (∀ W, Below w2.heap.size w2 W → Calls Tryd.prog 18 #[.string t] W fun e w' => e = .returned (.int .i64 0) ∧ Below W.heap.size W w') := Lib.hid fun W h => by
          have q := kind_any t W (by omega) (HV.out.below h)
          rw [hKt] at q
          exact q
        clear hKt hts hlt
        go_wp2_with fail
        refine (cP.out _ hb).mono ?_
        rintro e w8 ⟨rfl, hc⟩
        have hb8 := hb.trans (hc.mono hb.size)
        have hE8 := hE.below hc hE.lt
        clear hb hE hc cP hf
        go_wp2_with fail
        refine (cK0.out _ hb8).mono ?_
        rintro e w9 ⟨rfl, hc⟩
        have hb9 := hb8.trans (hc.mono hb8.size)
        have hE9 := hE8.below hc hE8.lt
        clear hb8 hE8 hc cK0
        go_wp2_with fail
        go_roundw
        case rel => exact ⟨k + 1, by omega, by go_num, hE9, hb9⟩
        case measure => simp [intOf]; omega
      · obtain rfl : k = 14 := by omega
        clear hE hk hlt HK
        obtain ⟨X3, SC, S4, KS, hX3, hSC, hS4, hKS, hls, hy, hn⟩ := last21 (x := x) HX.out ⟨c0, c1⟩
        rw [HSX.out] at hX3
        have hsz3 : (3 : Int) ≤ (SX.size : Int) := HZ.out
        have cL : Hid (∀ W, Below w2.heap.size w2 W → Calls Tryd.prog 18 #[.string S4] W fun e w' => e = .returned (.int .i64 KS) ∧ Below W.heap.size W w') := Lib.hid fun W h => by
          have q := kind_any S4 W (by omega) (HV.out.below h)
          rw [hKS] at q
          exact q
        have hcv : ∀ (B : Nat) (W : World), W.cell? ⟨B, 0, none⟩ = some (.int .u8 c) → (convert 22 9 (.slice (some ⟨B, 0, none⟩) 1 1)).run Tryd.prog W = .ok (.string SC) W := by rw [← hSC]; exact conv21 c
        have cW : Hid (∀ W, Below w2.heap.size w2 W → Calls Tryd.prog 22 #[] W fun e w' => e = .returned (.bool true) ∧ Below W.heap.size W w') := Lib.hid fun W h => works21_any W (HV.out.below h)
        have HB := Lib.hid hb
        clear hKS hls hSC HX HY HSX HSY HZ HV hb
        have hcs : (c < 65) ∨ (65 ≤ c ∧ c ≤ 90) ∨ (90 < c ∧ c < 97) ∨ (97 ≤ c ∧ c ≤ 122) ∨ (122 < c) := by omega
        rcases hcs with h1 | ⟨h1, h2⟩ | ⟨h1, h2⟩ | ⟨h1, h2⟩ | h1
        · skip
          have hks : (KS == 1) = false := by
            rw [beq_eq_false_iff_ne]; exact hn (by omega)
          clear hy hn
          have q1 : decide (65 ≤ c) = false := by simp; omega
          have q2 : decide (c ≤ 90) = true := by simp; omega
          have q3 : decide (97 ≤ c) = false := by simp; omega
          have q4 : decide (c ≤ 122) = true := by simp; omega
          go_wp2_with fail
          go_region
          all_goals
            have hb5 := (HB.out.alloc HB.out.size (.cells #[.int .u8 c] 5)).drew
            go_wp2_with fail
            refine (cL.out _ hb5).mono ?_
            rintro e w8 ⟨rfl, hc⟩
            have hb8 := hb5.trans (hc.mono hb5.size)
            clear hc hb5 cL
            go_wp2_with fail
            refine (cW.out _ hb8).mono ?_
            rintro e w9 ⟨rfl, hc⟩
            have hb9 := hb8.trans (hc.mono hb8.size)
            clear hc hb8 cW
            go_wp2_with fail
            go_ret
            exact ⟨rfl, hb9⟩
        · skip
          have hks : (KS == 1) = true := by
            rw [beq_iff_eq]; exact hy (by omega)
          clear hy hn
          have q1 : decide (65 ≤ c) = true := by simp; omega
          have q2 : decide (c ≤ 90) = true := by simp; omega
          have q3 : decide (97 ≤ c) = false := by simp; omega
          have q4 : decide (c ≤ 122) = true := by simp; omega
          go_wp2_with fail
          go_region
          all_goals
            have hb5 := (HB.out.alloc HB.out.size (.cells #[.int .u8 c] 5)).drew
            go_wp2_with fail
            refine (cL.out _ hb5).mono ?_
            rintro e w8 ⟨rfl, hc⟩
            have hb8 := hb5.trans (hc.mono hb5.size)
            clear hc hb5 cL
            go_wp2_with fail
            refine (cW.out _ hb8).mono ?_
            rintro e w9 ⟨rfl, hc⟩
            have hb9 := hb8.trans (hc.mono hb8.size)
            clear hc hb8 cW
            go_wp2_with fail
            go_ret
            exact ⟨rfl, hb9⟩
        · skip
          have hks : (KS == 1) = false := by
            rw [beq_eq_false_iff_ne]; exact hn (by omega)
          clear hy hn
          have q1 : decide (65 ≤ c) = true := by simp; omega
          have q2 : decide (c ≤ 90) = false := by simp; omega
          have q3 : decide (97 ≤ c) = false := by simp; omega
          have q4 : decide (c ≤ 122) = true := by simp; omega
          go_wp2_with fail
          go_region
          all_goals
            have hb5 := (HB.out.alloc HB.out.size (.cells #[.int .u8 c] 5)).drew
            go_wp2_with fail
            refine (cL.out _ hb5).mono ?_
            rintro e w8 ⟨rfl, hc⟩
            have hb8 := hb5.trans (hc.mono hb5.size)
            clear hc hb5 cL
            go_wp2_with fail
            refine (cW.out _ hb8).mono ?_
            rintro e w9 ⟨rfl, hc⟩
            have hb9 := hb8.trans (hc.mono hb8.size)
            clear hc hb8 cW
            go_wp2_with fail
            go_ret
            exact ⟨rfl, hb9⟩
        · skip
          have hks : (KS == 1) = true := by
            rw [beq_iff_eq]; exact hy (by omega)
          clear hy hn
          have q1 : decide (65 ≤ c) = true := by simp; omega
          have q2 : decide (c ≤ 90) = false := by simp; omega
          have q3 : decide (97 ≤ c) = true := by simp; omega
          have q4 : decide (c ≤ 122) = true := by simp; omega
          go_wp2_with fail
          go_region
          all_goals
            have hb5 := (HB.out.alloc HB.out.size (.cells #[.int .u8 c] 5)).drew
            go_wp2_with fail
            refine (cL.out _ hb5).mono ?_
            rintro e w8 ⟨rfl, hc⟩
            have hb8 := hb5.trans (hc.mono hb5.size)
            clear hc hb5 cL
            go_wp2_with fail
            refine (cW.out _ hb8).mono ?_
            rintro e w9 ⟨rfl, hc⟩
            have hb9 := hb8.trans (hc.mono hb8.size)
            clear hc hb8 cW
            go_wp2_with fail
            go_ret
            exact ⟨rfl, hb9⟩
        · skip
          have hks : (KS == 1) = false := by
            rw [beq_eq_false_iff_ne]; exact hn (by omega)
          clear hy hn
          have q1 : decide (65 ≤ c) = true := by simp; omega
          have q2 : decide (c ≤ 90) = false := by simp; omega
          have q3 : decide (97 ≤ c) = true := by simp; omega
          have q4 : decide (c ≤ 122) = false := by simp; omega
          go_wp2_with fail
          go_region
          all_goals
            have hb5 := (HB.out.alloc HB.out.size (.cells #[.int .u8 c] 5)).drew
            go_wp2_with fail
            refine (cL.out _ hb5).mono ?_
            rintro e w8 ⟨rfl, hc⟩
            have hb8 := hb5.trans (hc.mono hb5.size)
            clear hc hb5 cL
            go_wp2_with fail
            refine (cW.out _ hb8).mono ?_
            rintro e w9 ⟨rfl, hc⟩
            have hb9 := hb8.trans (hc.mono hb8.size)
            clear hc hb8 cW
            go_wp2_with fail
            go_ret
            exact ⟨rfl, hb9⟩
end Go.Proofs.YtmhciidliicheaaDoor
