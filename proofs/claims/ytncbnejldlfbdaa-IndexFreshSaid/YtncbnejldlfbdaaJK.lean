/- What slices.symMergeCmpFunc leaves, its last part: the two halves made one; no condition. -/
import Derived.Test.YtncbnejldlfbdaaJH
import Derived.Deep.DeepCutAuto
namespace Go.Proofs.Ytncbnejldlfbdaa.PIdx
open Go.RowKit Go.Proofs.YtncbnejldlfbdaaW.PrintWords Go.Proofs.YtncbnejldlfbdaaW.PrintLast Go.Proofs.YtncbnejldlfbdaaW.PrintMore
open Go.Proofs.Ytncbnejldlfbdaa.PIndexFresh
open Go.Proofs.Ytncbnejldlfbdaa.PHeap (Row)
set_option linter.unusedVariables false
set_option linter.unusedSimpArgs false
theorem at_R2 {P L R S : List It} {q : Nat} (h : q < R.length) : (P ++ L ++ R ++ S)[P.length + L.length + q]? = some (gi R q) := by
  have := at_L (P := P ++ L) (L := R) (Z := S) h
  simpa using this
theorem at_L2 {P L R S : List It} {q : Nat} (h : q < L.length) : (P ++ L ++ R ++ S)[P.length + q]? = some (gi L q) := by
  have := at_L (P := P) (L := L) (Z := R ++ S) h
  simpa using this
/-- the call makes two sorted rows one, where they are k items at most -/
def SymOk (base g cap k : Nat) : Prop := ∀ (P L R S : List It) (a m b : Int) (len : Nat) (w : World), RowAt w w base g cap (P ++ L ++ R ++ S) → L.Pairwise leI → R.Pairwise leI → a = (P.length : Int) → m = ((P.length + L.length : Nat) : Int) → b = ((P.length + L.length + R.length : Nat) : Int) → len = P.length + L.length + R.length + S.length → len < 4611686018427387904 → 0 < L.length → 0 < R.length → L.length + R.length ≤ k →
    Calls Try.prog 70 #[.slice (some ⟨g, 0, none⟩) len cap, .int .i64 a, .int .i64 m, .int .i64 b, FV] w (Merged w base g cap P L R S)
theorem SymOk.use {base g cap k : Nat} (IH : SymOk base g cap k) (P L R S : List It) (a m b : Int) (len : Nat) (w : World) (h : RowAt w w base g cap (P ++ L ++ R ++ S)) (hL : L.Pairwise leI) (hR : R.Pairwise leI) (ha : a = (P.length : Int)) (hm : m = ((P.length + L.length : Nat) : Int)) (hb : b = ((P.length + L.length + R.length : Nat) : Int)) (hlen : len = P.length + L.length + R.length + S.length) (hbig : len < 4611686018427387904) (h1 : 0 < L.length) (h2 : 0 < R.length) (hk : L.length + R.length ≤ k) :
    Calls Try.prog 70 #[.slice (some ⟨g, 0, none⟩) len cap, .int .i64 a, .int .i64 m, .int .i64 b, FV] w (Merged w base g cap P L R S) := IH P L R S a m b len w h hL hR ha hm hb hlen hbig h1 h2 hk
/-- what stands behind the rotation -/
def firstReg : Code → Option Nat
  | .region n _ _ => some n
  | .seq a _ => firstReg a
  | .block _ c => firstReg c
  | .loop c => firstReg c
  | .scope c => firstReg c
  | _ => none
def behind (n : Nat) : Code → Option Code
  | .seq a b => if firstReg b = some n then some b else match behind n a with
    | some c => some c
    | none => behind n b
  | .block _ c => behind n c
  | .loop c => behind n c
  | .scope c => behind n c
  | .cond _ a b => match behind n a with
    | some c => some c
    | none => behind n b
  | _ => none
noncomputable def tail70 : Code := ((Try.f70.body.bind (behind 41)).getD .skip)
set_option maxHeartbeats 40000000 in
set_option maxRecDepth 1000000 in
theorem sym_tail (base g cap k : Nat) (P L R S : List It) (len : Nat) (w wc : World) (an mn bn md i ed s e : Nat) (HIH : Aside0 (SymOk base g cap k)) (HSL : Aside0 (L.Pairwise leI)) (HSR : Aside0 (R.Pairwise leI))
    (HLN : Aside0 (an = P.length ∧ mn = P.length + L.length ∧ bn = P.length + L.length + R.length ∧ len = P.length + L.length + R.length + S.length ∧ len < 4611686018427387904 ∧ 2 ≤ L.length ∧ 2 ≤ R.length ∧ L.length + R.length ≤ k + 1))
    (HMD : Aside0 (an < md ∧ md < bn ∧ md ≤ len ∧ an + bn ≤ 2 * md + 1 ∧ 2 * md ≤ an + bn))
    (HED : Aside0 (ed + i = md + mn ∧ an ≤ i ∧ i ≤ mn ∧ i ≤ md ∧ ed ≤ bn))
    (HC : Aside0 (CutAt L R s e)) (HSE : Aside0 (i = an + s ∧ md = i + e ∧ s ≤ L.length ∧ e ≤ R.length ∧ ed = mn + e))
    (HR1 : Aside0 (RowAt w wc base g cap (P ++ (L.take s ++ R.take e) ++ (L.drop s ++ R.drop e) ++ S))) {u5 u6 u7 u8 u9 u10 u11 u12 u13 u14 u15 u16 u17 u19 u21 u22 u23 u25 u26 u27 u28 u29 u30 u31 u32 u33 u34 u35 u36 u37 u38 u39 u40 u41 u42 u43 u44 u45 u46 u47 u48 u49 u50 u51 u52 u53 u54 u55 u56 u57 u58 u59 u60 u61 u62 u63 u64 u65 u66 u67 u68 u69 u70 u71 u72 u73 u74 u75 u76 u77 u78 u79 u80 u81 u82 u83 u84 u85 u86 u87 u88 u89 u90 u91 u92 u93 u94 u95 u96 u97 u98 u99 u100 u101 u102 u103 u104 u105 u106 u107 u108 u109 u110 u111 u112 u113 u114 u115 u116 u117 u118 u119 u120 u121 u122 u123 u124 u125 u126 u127 u128 u129 u130 u131 u132 u133 u134 u135 u136 u137 u138 u139 u140 u141 u142 u143 u144 u145 u146 u147 u148 u149 u150 u151 u152 u153 u154 u155 u156 u157 u158 u159 u160 u161 u162 u163 u164 u165 u166 u167 u168 u169 u170 u171 u172 u173 u174 u175 u176 u177 u178 u179 u180 u181 u182 u183 u184 u185 u186 u187 u188 u189 u190 u191 u192 u193 u194 u195 u196 u197 u198 u199 u200 u201 u202 u203 u204 u205 u206 u207 u208 u209 u210 u211 u212 u213 u214 u215 u216 u217 u218 u219 : Value} :
    Code.wp Try.prog tail70 (bodyPost Try.prog Try.f70 (Merged w base g cap P L R S)) ⟨List.toArray (.slice (some ⟨g, 0, none⟩) len cap :: .int .i64 (an : Int) :: .int .i64 (mn : Int) :: .int .i64 (bn : Int) :: FV :: u5 :: u6 :: u7 :: u8 :: u9 :: u10 :: u11 :: u12 :: u13 :: u14 :: u15 :: u16 :: u17 :: .int .i64 (md : Int) :: u19 :: .int .i64 (i : Int) :: u21 :: u22 :: u23 :: .int .i64 (ed : Int) :: u25 :: u26 :: u27 :: u28 :: u29 :: u30 :: u31 :: u32 :: u33 :: u34 :: u35 :: u36 :: u37 :: u38 :: u39 :: u40 :: u41 :: u42 :: u43 :: u44 :: u45 :: u46 :: u47 :: u48 :: u49 :: u50 :: u51 :: u52 :: u53 :: u54 :: u55 :: u56 :: u57 :: u58 :: u59 :: u60 :: u61 :: u62 :: u63 :: u64 :: u65 :: u66 :: u67 :: u68 :: u69 :: u70 :: u71 :: u72 :: u73 :: u74 :: u75 :: u76 :: u77 :: u78 :: u79 :: u80 :: u81 :: u82 :: u83 :: u84 :: u85 :: u86 :: u87 :: u88 :: u89 :: u90 :: u91 :: u92 :: u93 :: u94 :: u95 :: u96 :: u97 :: u98 :: u99 :: u100 :: u101 :: u102 :: u103 :: u104 :: u105 :: u106 :: u107 :: u108 :: u109 :: u110 :: u111 :: u112 :: u113 :: u114 :: u115 :: u116 :: u117 :: u118 :: u119 :: u120 :: u121 :: u122 :: u123 :: u124 :: u125 :: u126 :: u127 :: u128 :: u129 :: u130 :: u131 :: u132 :: u133 :: u134 :: u135 :: u136 :: u137 :: u138 :: u139 :: u140 :: u141 :: u142 :: u143 :: u144 :: u145 :: u146 :: u147 :: u148 :: u149 :: u150 :: u151 :: u152 :: u153 :: u154 :: u155 :: u156 :: u157 :: u158 :: u159 :: u160 :: u161 :: u162 :: u163 :: u164 :: u165 :: u166 :: u167 :: u168 :: u169 :: u170 :: u171 :: u172 :: u173 :: u174 :: u175 :: u176 :: u177 :: u178 :: u179 :: u180 :: u181 :: u182 :: u183 :: u184 :: u185 :: u186 :: u187 :: u188 :: u189 :: u190 :: u191 :: u192 :: u193 :: u194 :: u195 :: u196 :: u197 :: u198 :: u199 :: u200 :: u201 :: u202 :: u203 :: u204 :: u205 :: u206 :: u207 :: u208 :: u209 :: u210 :: u211 :: u212 :: u213 :: u214 :: u215 :: u216 :: u217 :: u218 :: u219 :: []), []⟩ wc := by
  have hu54 := Try.underlying54
  have hu65 := Try.underlying65
  conv => arg 2; whnf
  go_upto_region 41 with (fail)
  go_cut [199] (fun v199 wx => ∃ b : Bool, v199 = .bool b ∧ Aside0 (b = decide (an < i ∧ i < md)) ∧ wc = wx)
  case first =>
    by_cases h1 : an < i
    · have d1 : decide (an < i) = true := decide_eq_true h1
      by_cases h2 : i < md
      · have d2 : decide (i < md) = true := decide_eq_true h2
        have hb : true = decide (an < i ∧ i < md) := (decide_eq_true ⟨h1, h2⟩).symm
        have HB := Aside0.mk hb
        clear hb
        go_wp2
        go_meet
        exact ⟨_, rfl, HB, rfl⟩
      · have d2 : decide (i < md) = false := decide_eq_false h2
        have hb : false = decide (an < i ∧ i < md) := (decide_eq_false (fun h => h2 h.2)).symm
        have HB := Aside0.mk hb
        clear hb
        go_wp2
        go_meet
        exact ⟨_, rfl, HB, rfl⟩
    · have d1 : decide (an < i) = false := decide_eq_false h1
      have hb : false = decide (an < i ∧ i < md) := (decide_eq_false (fun h => h1 h.1)).symm
      have HB := Aside0.mk hb
      clear hb
      go_wp2
      go_meet
      exact ⟨_, rfl, HB, rfl⟩
  case rest =>
    obtain ⟨b, rfl, HB, rfl⟩ := hcut
    go_upto_if 199 with (fail)
    go_cut [] (fun wx => ∃ M1 : List It, Aside0 (RowAt w wx base g cap (P ++ M1 ++ (L.drop s ++ R.drop e) ++ S)) ∧ Aside0 (M1.Pairwise leI ∧ Stb (L.take s ++ R.take e) M1 ∧ M1.length = s + e))
    case first =>
      cases b with
      | true =>
        have HH : Aside0 (an < i ∧ i < md) := ⟨of_decide_eq_true HB.out.symm⟩
        have HR0 : Aside0 (RowAt wc wc base g cap (P ++ L.take s ++ R.take e ++ (L.drop s ++ R.drop e ++ S))) := ⟨by
          have h1 := HR1.out.start
          simpa using h1⟩
        go_wp2_with ((go_at_call 70; (with_reducible refine (HIH.out.use P (L.take s) (R.take e) (L.drop s ++ R.drop e ++ S) _ _ _ len wc HR0.out (HSL.out.sublist (List.take_sublist _ _)) (HSR.out.sublist (List.take_sublist _ _)) (by have := HSE.out; have := HLN.out; (try simp); omega) (by have := HSE.out; have := HLN.out; simp; omega) (by have := HSE.out; have := HLN.out; simp; omega) (by have := HSE.out; have := HLN.out; simp; omega) (by have := HLN.out; omega) (by have := HSE.out; have := HLN.out; have := HH.out; simp; omega) (by have := HSE.out; have := HLN.out; have := HH.out; simp; omega) (by have := HSE.out; have := HLN.out; have := HMD.out; simp; omega)).mono ?_); rintro e w1 ⟨rfl, M1, h1, h2⟩; have R1 := h1; have T1 := h2; clear h1 h2))
        go_meet
        exact ⟨M1, ⟨by have := HR1.out.chain R1.out; simpa using this⟩, ⟨T1.out.1, T1.out.2.1, by have := T1.out.2.2; have := HSE.out; simp at *; omega⟩⟩
      | false =>
        go_wp2
        go_meet
        have hh : ¬ (an < i ∧ i < md) := of_decide_eq_false HB.out.symm
        refine ⟨L.take s ++ R.take e, ⟨HR1.out⟩, ⟨?_, Stb.refl _, by have := HSE.out; simp; omega⟩⟩
        by_cases hs0 : s = 0
        · subst hs0; simpa using HSR.out.sublist (List.take_sublist _ _)
        · have he0 : e = 0 := by have := HSE.out; omega
          subst he0; simpa using HSL.out.sublist (List.take_sublist _ _)
    case rest =>
      obtain ⟨M1, HR2, HM1⟩ := hcut
      clear HR1 HB
      go_upto_region 43 with (fail)
      go_cut [213] (fun v213 wx => ∃ b : Bool, v213 = .bool b ∧ Aside0 (b = decide (md < ed ∧ ed < bn)) ∧ wc = wx)
      case first =>
        by_cases h1 : md < ed
        · have d1 : decide (md < ed) = true := decide_eq_true h1
          by_cases h2 : ed < bn
          · have d2 : decide (ed < bn) = true := decide_eq_true h2
            have hb : true = decide (md < ed ∧ ed < bn) := (decide_eq_true ⟨h1, h2⟩).symm
            have HB := Aside0.mk hb
            clear hb
            go_wp2
            go_meet
            exact ⟨_, rfl, HB, rfl⟩
          · have d2 : decide (ed < bn) = false := decide_eq_false h2
            have hb : false = decide (md < ed ∧ ed < bn) := (decide_eq_false (fun h => h2 h.2)).symm
            have HB := Aside0.mk hb
            clear hb
            go_wp2
            go_meet
            exact ⟨_, rfl, HB, rfl⟩
        · have d1 : decide (md < ed) = false := decide_eq_false h1
          have hb : false = decide (md < ed ∧ ed < bn) := (decide_eq_false (fun h => h1 h.1)).symm
          have HB := Aside0.mk hb
          clear hb
          go_wp2
          go_meet
          exact ⟨_, rfl, HB, rfl⟩
      case rest =>
        obtain ⟨b, rfl, HB, rfl⟩ := hcut
        cases b with
        | true =>
          have HH : Aside0 (md < ed ∧ ed < bn) := ⟨of_decide_eq_true HB.out.symm⟩
          have HR0 : Aside0 (RowAt wc wc base g cap ((P ++ M1) ++ L.drop s ++ R.drop e ++ S)) := ⟨by
            have h1 := HR2.out.start
            simpa using h1⟩
          go_wp2_with ((go_at_call 70; (with_reducible refine (HIH.out.use (P ++ M1) (L.drop s) (R.drop e) S _ _ _ len wc HR0.out (HSL.out.sublist (List.drop_sublist _ _)) (HSR.out.sublist (List.drop_sublist _ _)) (by have := HSE.out; have := HLN.out; have := HM1.out.2.2; simp; omega) (by have := HSE.out; have := HLN.out; have := HM1.out.2.2; simp; omega) (by have := HSE.out; have := HLN.out; have := HM1.out.2.2; simp; omega) (by have := HSE.out; have := HLN.out; have := HM1.out.2.2; simp; omega) (by have := HLN.out; omega) (by have := HSE.out; have := HLN.out; have := HH.out; simp; omega) (by have := HSE.out; have := HLN.out; have := HH.out; simp; omega) (by have := HSE.out; have := HLN.out; have := HMD.out; simp; omega)).mono ?_); rintro e w1 ⟨rfl, M2, h1, h2⟩; have R1 := h1; have T1 := h2; clear h1 h2))
          go_returns
          have hj := HC.out.join HSL.out HSR.out HM1.out.1 HM1.out.2.1 T1.out.1 T1.out.2.1
          exact ⟨rfl, M1 ++ M2, ⟨by have := HR2.out.chain R1.out; simpa using this⟩, ⟨hj.1, hj.2, by have := T1.out.2.2; have := HM1.out.2.2; have := HSE.out; simp at *; omega⟩⟩
        | false =>
          have hh : ¬ (md < ed ∧ ed < bn) := of_decide_eq_false HB.out.symm
          have HM2 : Aside0 ((L.drop s ++ R.drop e).Pairwise leI) := ⟨by
            by_cases hs0 : s < L.length
            · have he0 : R.length ≤ e := by have := HSE.out; have := HLN.out; omega
              rw [List.drop_of_length_le he0]; simpa using HSL.out.sublist (List.drop_sublist _ _)
            · rw [List.drop_of_length_le (by omega : L.length ≤ s)]; simpa using HSR.out.sublist (List.drop_sublist _ _)⟩
          clear hh
          go_wp2
          go_returns
          have hj := HC.out.join HSL.out HSR.out HM1.out.1 HM1.out.2.1 HM2.out (Stb.refl _)
          exact ⟨rfl, M1 ++ (L.drop s ++ R.drop e), ⟨by have := HR2.out; simpa using this⟩, ⟨hj.1, hj.2, by have := HM1.out.2.2; have := HSE.out; simp at *; omega⟩⟩
end Go.Proofs.Ytncbnejldlfbdaa.PIdx
