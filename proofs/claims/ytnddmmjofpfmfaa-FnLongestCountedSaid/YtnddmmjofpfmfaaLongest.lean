/- Plain laws of this session: how many least ladders there are of each length, for up to six wires, in figures. No program in sight. -/
import Derived.Test.YtnddmmjofpfmfaaTallies
import Derived.Test.YtnddmmjofpfmfaaCycles
namespace Go.Proofs.YtnddmmjofpfmfaaL
open Go.RowKit Go.Proofs.YtnddmmjofpfmfaaW.PrintWords
set_option linter.unusedVariables false
set_option linter.unusedSimpArgs false

theorem ords_take (p : List Int) (h : isOrd p = true) : ∀ k, k ≤ p.length → p.take k ∈ ordsB p.length k := by
  have ha := isOrd_all h
  intro k
  induction k with
  | zero => intro _; simp [ordsB]
  | succ k ih =>
    intro hk
    have hk' : k < p.length := by omega
    rw [ordsB]
    refine List.mem_flatMap.2 ⟨p.take k, ih (by omega), List.mem_map.2 ⟨p[k], List.mem_filter.2 ⟨?_, ?_⟩, ?_⟩⟩
    · have := ha.1 p[k] (List.getElem_mem hk')
      exact upFrom_has p.length 0 p[k] (by omega) (by omega)
    · have hn : p[k] ∉ p.take k := fun hm => by
        obtain ⟨j, hj, e⟩ := List.mem_iff_getElem.1 hm
        rw [List.length_take] at hj
        rw [List.getElem_take] at e
        have := rd_inj ha.2 (j : Int) (k : Int) ⟨by omega, by omega⟩ ⟨by omega, by omega⟩ (by rw [rd_lt p j (by omega), rd_lt p k hk', e])
        omega
      simp [hn]
    · rw [List.take_succ_eq_append_getElem hk']
theorem ords_mem {n : Nat} {p : List Int} (h : isOrd p = true) (hn : p.length = n) : p ∈ ordsB n n := by
  have := ords_take p h p.length (Nat.le_refl _)
  rw [List.take_length, hn] at this
  exact this
inductive Tr where
  | e : Tr
  | n : Nat → Nat → Tr → Tr → Tr
def Tr.find : Tr → Nat → Nat
  | .e, _ => 0
  | .n k v l r, x => match Nat.beq x k with
    | true => v
    | false => match Nat.blt x k with
      | true => l.find x
      | false => r.find x
def keyT (p : List Int) : Nat := p.foldl (fun a x => a * 8 + x.toNat) 0
def chkT (n : Nat) (T : Tr) : Bool := (ordsB n n).all fun p => Nat.beq (T.find (keyT p)) (if (desc p).length = 0 then 1 else ((desc p).map fun x => T.find (keyT (swp p x.toNat (x.toNat + 1)))).sum)
theorem cnt_find {n : Nat} {T : Tr} (hT : chkT n T = true) : ∀ (d : Nat) (p : List Int), isOrd p = true → p.length = n → invC p < d → cntF d p = T.find (keyT p) := by
  intro d
  induction d with
  | zero => intro p _ _ h; omega
  | succ d ih =>
    intro p h hn hi
    have := Nat.eq_of_beq_eq_true (List.all_eq_true.1 hT p (ords_mem h hn))
    rw [this, cntF]
    by_cases hz : (desc p).length = 0
    · rw [if_pos hz, if_pos hz]
    · rw [if_neg hz, if_neg hz]
      congr 1
      apply List.map_congr_left
      intro x hx
      obtain ⟨j, rfl, hj, hr⟩ := desc_mem hx
      have hf := invC_fall p j hj hr
      rw [toNat_cast]
      exact ih _ (isOrd_swp h j hj) (by rw [swp_length]; exact hn) (by omega)
theorem foldl_same {α β : Type} {f g : β → α → β} : ∀ (l : List α) (b : β), (∀ b, ∀ x ∈ l, f b x = g b x) → l.foldl f b = l.foldl g b
  | [], _, _ => rfl
  | x :: l, b, h => by rw [List.foldl_cons, List.foldl_cons, h b x (by simp)]; exact foldl_same l _ (fun b y hy => h b y (by simp [hy]))
def tallyT (T : Tr) (xs p : List Int) : List Int := xs.set (invC p) (wrap64 (rd xs ((invC p : Nat) : Int) + ((T.find (keyT p) : Nat) : Int)))
theorem byLen_find {n : Nat} {T : Tr} (hT : chkT n T = true) (h7 : n < 7) (h2 : 2 ≤ n) : byLen n = (ordsB n n).foldl (tallyT T) (List.replicate (n * (n - 1) / 2 + 1) 0) := by
  unfold byLen
  refine foldl_same _ _ (fun xs p hp => ?_)
  obtain ⟨h1, h3, h4⟩ := okP_iff.1 (List.all_eq_true.1 (ords_ok n h7 h2) p hp)
  unfold tally tallyT
  have h5 := invC_six (p := p) (by omega)
  rw [cnt_find hT 16 p h1 h3 (by omega)]
open Tr in
def tr2 : Tr := (n 8 1 (n 1 1 e e) e)
theorem chk2 : chkT 2 tr2 = true := by decide +kernel
theorem byLen2 : byLen 2 = [1, 1] := by
  rw [byLen_find chk2 (by decide) (by decide)]
  decide +kernel
open Tr in
def tr3 : Tr := (n 80 1 (n 17 1 (n 10 1 e e) (n 66 1 e e)) (n 136 2 (n 129 1 e e) e))
theorem chk3 : chkT 3 tr3 = true := by decide +kernel
theorem byLen3 : byLen 3 = [1, 2, 2, 2] := by
  rw [byLen_find chk3 (by decide) (by decide)]
  decide +kernel
open Tr in
def tr4 : Tr := (n 1035 1 (n 531 1 (n 153 1 (n 90 1 (n 83 1 e e) (n 139 1 e e)) (n 209 2 (n 202 1 e e) e)) (n 664 1 (n 643 1 (n 538 2 e e) e) (n 720 3 (n 706 2 e e) e))) (n 1546 1 (n 1112 3 (n 1091 2 (n 1049 2 e e) e) (n 1224 5 (n 1217 2 e e) e)) (n 1616 6 (n 1602 3 (n 1553 3 e e) e) (n 1672 16 (n 1665 5 e e) e))))
theorem chk4 : chkT 4 tr4 = true := by decide +kernel
theorem byLen4 : byLen 4 = [1, 3, 6, 10, 14, 16, 16] := by
  rw [byLen_find chk4 (by decide) (by decide)]
  decide +kernel
open Tr in
def tr5 : Tr := (n 9740 2 (n 5148 1 (n 1697 3 (n 1123 2 (n 738 1 (n 675 1 (n 668 1 e e) (n 724 1 e e)) (n 794 2 (n 787 1 e e) (n 1116 1 e e))) (n 1305 3 (n 1249 1 (n 1228 1 e e) (n 1291 2 e e)) (n 1634 2 (n 1620 1 e e) (n 1676 2 e e)))) (n 2257 16 (n 2138 3 (n 1809 5 (n 1802 2 e e) (n 2131 1 e e)) (n 2201 6 (n 2187 3 e e) (n 2250 5 e e))) (n 4322 3 (n 4259 2 (n 4252 1 e e) (n 4308 2 e e)) (n 4378 8 (n 4371 3 e e) e)))) (n 6296 10 (n 5764 3 (n 5379 3 (n 5316 1 (n 5155 3 e e) (n 5344 1 e e)) (n 5652 2 (n 5400 4 e e) (n 5666 5 e e))) (n 6163 3 (n 5890 5 (n 5792 4 e e) (n 5904 9 e e)) (n 6275 6 (n 6170 11 e e) e))) (n 8473 11 (n 8291 3 (n 6352 35 (n 6338 16 e e) (n 8284 1 e e)) (n 8417 3 (n 8396 2 e e) (n 8459 5 e e))) (n 8928 4 (n 8739 8 (n 8732 2 e e) (n 8900 3 e e)) (n 8984 19 (n 8963 11 e e) e))))) (n 14346 5 (n 12449 6 (n 10307 16 (n 9985 5 (n 9796 5 (n 9761 5 e e) (n 9824 9 e e)) (n 10251 5 (n 9992 14 e e) (n 10265 16 e e))) (n 12372 1 (n 10433 21 (n 10328 35 e e) (n 10440 70 e e)) (n 12428 3 (n 12386 3 e e) e))) (n 13072 35 (n 12834 11 (n 12561 16 (n 12554 5 e e) (n 12820 3 e e)) (n 12960 10 (n 12932 6 e e) (n 13058 16 e e))) (n 13408 35 (n 13345 16 (n 13324 5 e e) (n 13380 16 e e)) (n 13576 70 (n 13569 21 e e) e)))) (n 17048 20 (n 16523 4 (n 14465 42 (n 14402 21 (n 14353 21 e e) (n 14416 56 e e)) (n 16467 1 (n 14472 168 e e) (n 16474 4 e e))) (n 16915 4 (n 16586 9 (n 16537 10 e e) (n 16593 35 e e)) (n 17027 10 (n 16922 19 e e) e))) (n 17608 216 (n 17433 35 (n 17104 90 (n 17090 35 e e) (n 17419 9 e e)) (n 17496 90 (n 17475 35 e e) (n 17601 56 e e))) (n 18000 216 (n 17937 70 (n 17930 14 e e) (n 17986 70 e e)) (n 18056 768 (n 18049 168 e e) e))))))
theorem chk5 : chkT 5 tr5 = true := by decide +kernel
theorem byLen5 : byLen 5 = [1, 4, 12, 30, 68, 132, 252, 412, 614, 768, 768] := by
  rw [byLen_find chk5 (by decide) (by decide)]
  decide +kernel
open Tr in
def tr6 : Tr := (n 98981 1 (n 47125 5 (n 19027 5 (n 10977 10 (n 6931 5 (n 5986 3 (n 5475 2 (n 5405 1 (n 5356 1 (n 5349 1 e e) e) (n 5468 1 (n 5419 1 e e) e)) (n 5909 1 (n 5804 2 (n 5797 1 e e) e) (n 5972 2 (n 5930 1 e e) e))) (n 6490 5 (n 6357 2 (n 6315 2 (n 6301 1 e e) e) (n 6483 2 (n 6378 3 e e) e)) (n 6868 3 (n 6819 3 (n 6812 1 e e) e) (n 6882 6 e e)))) (n 10060 3 (n 9052 3 (n 8940 2 (n 8933 1 (n 6938 16 e e) e) (n 9003 3 (n 8989 2 e e) e)) (n 9836 3 (n 9829 1 (n 9059 8 e e) e) (n 10025 1 (n 9997 1 e e) e))) (n 10571 5 (n 10347 5 (n 10333 2 (n 10081 4 e e) e) (n 10473 4 (n 10445 3 e e) e)) (n 10851 11 (n 10844 3 (n 10585 9 e e) e) (n 10956 6 e e))))) (n 14988 16 (n 13609 4 (n 13098 3 (n 12965 1 (n 11033 35 (n 11019 16 e e) e) (n 13077 2 (n 12972 3 e e) e)) (n 13413 2 (n 13154 11 (n 13140 5 e e) e) (n 13581 3 (n 13420 8 e e) e))) (n 14505 9 (n 14421 2 (n 13665 19 (n 13644 11 e e) e) (n 14477 5 (n 14442 5 e e) e)) (n 14932 5 (n 14673 14 (n 14666 5 e e) e) (n 14946 16 e e)))) (n 17515 11 (n 17109 3 (n 15121 70 (n 15114 21 (n 15009 35 e e) e) (n 17067 3 (n 17053 1 e e) e)) (n 17242 16 (n 17235 5 (n 17130 6 e e) e) (n 17501 3 e e))) (n 18026 16 (n 17739 16 (n 17641 10 (n 17613 6 e e) e) (n 18005 5 (n 17753 35 e e) e)) (n 18250 21 (n 18089 35 (n 18061 16 e e) e) (n 18257 70 e e)))))) (n 35050 15 (n 22289 216 (n 21596 4 (n 21148 1 (n 19097 56 (n 19083 21 (n 19034 21 e e) e) (n 19153 168 (n 19146 42 e e) e)) (n 21218 10 (n 21204 4 (n 21155 4 e e) e) (n 21274 35 (n 21267 9 e e) e))) (n 22100 9 (n 21729 20 (n 21708 10 (n 21603 19 e e) e) (n 21785 90 (n 21771 35 e e) e)) (n 22177 90 (n 22156 35 (n 22114 35 e e) e) (n 22282 56 e e)))) (n 34140 3 (n 22737 768 (n 22667 70 (n 22618 70 (n 22611 14 e e) e) (n 22730 168 (n 22681 216 e e) e)) (n 34077 2 (n 34028 2 (n 34021 1 e e) e) (n 34091 3 e e))) (n 34644 8 (n 34476 6 (n 34469 2 (n 34147 8 e e) e) (n 34602 4 (n 34581 3 e e) e)) (n 34987 8 (n 34973 3 (n 34658 15 e e) e) (n 35029 8 e e))))) (n 43205 4 (n 41259 6 (n 35554 36 (n 35484 4 (n 35162 30 (n 35155 10 e e) e) (n 35540 15 (n 35491 15 e e) e)) (n 41189 1 (n 35610 112 (n 35603 30 e e) e) (n 41245 3 (n 41196 3 e e) e))) (n 42792 1 (n 42533 1 (n 41315 20 (n 41308 6 e e) e) (n 42757 1 (n 42540 4 e e) e)) (n 43037 3 (n 42848 5 (n 42820 4 e e) e) (n 43051 9 e e)))) (n 45228 8 (n 43716 10 (n 43352 14 (n 43331 9 (n 43240 5 e e) e) (n 43555 26 (n 43548 6 e e) e)) (n 43800 64 (n 43779 35 (n 43744 15 e e) e) (n 45221 2 e e))) (n 46124 15 (n 45396 16 (n 45354 9 (n 45333 5 e e) e) (n 46117 3 (n 45410 40 e e) e)) (n 46404 19 (n 46376 5 (n 46341 4 e e) e) (n 46432 29 e e))))))) (n 71205 3 (n 54496 35 (n 50520 64 (n 49309 3 (n 47636 16 (n 47272 14 (n 47237 9 (n 47146 14 e e) e) (n 47440 28 (n 47426 14 e e) e)) (n 47776 64 (n 47748 35 (n 47650 56 e e) e) (n 47888 162 (n 47874 70 e e) e))) (n 50205 6 (n 49386 26 (n 49365 11 (n 49323 11 e e) e) (n 49498 77 (n 49491 21 e e) e)) (n 50408 15 (n 50373 10 (n 50219 26 e e) e) (n 50499 35 e e)))) (n 51906 168 (n 51024 162 (n 50821 35 (n 50730 56
  (n 50709 16 e e) e) (n 51010 70 (n 50856 64 e e) e)) (n 51843 56 (n 51738 98 (n 51731 21 e e) e) (n 51864 120 e e))) (n 53523 49 (n 53411 19 (n 53404 4 (n 51920 450 e e) e) (n 53474 55 (n 53460 19 e e) e)) (n 54307 55 (n 54300 10 (n 53530 216 e e) e) (n 54468 20 e e))))) (n 67341 3 (n 55448 525 (n 54944 189 (n 54804 35 (n 54552 189 (n 54531 90 e e) e) (n 54916 90 (n 54818 146 e e) e)) (n 55315 70 (n 55056 567 (n 55042 216 e e) e) (n 55427 216 (n 55322 384 e e) e))) (n 66347 6 (n 66277 1 (n 55504 2310 (n 55490 768 e e) e) (n 66333 3 (n 66284 3 e e) e)) (n 67173 2 (n 66403 20 (n 66396 6 e e) e) (n 67180 8 e e)))) (n 68195 40 (n 67789 11 (n 67425 19 (n 67404 11 (n 67369 4 e e) e) (n 67691 16 (n 67677 5 e e) e)) (n 67929 49 (n 67915 21 (n 67817 19 e e) e) (n 68188 9 e e))) (n 69868 8 (n 68363 77 (n 68321 55 (n 68300 26 e e) e) (n 69861 2 (n 68377 216 e e) e)) (n 69980 20 (n 69931 20 (n 69917 8 e e) e) (n 69987 80 e e)))))) (n 82153 35 (n 78177 49 (n 72220 26 (n 71709 11 (n 71464 5 (n 71429 4 (n 71212 15 e e) e) (n 71520 29 (n 71492 19 e e) e)) (n 71912 29 (n 71877 19 (n 71723 40 e e) e) (n 72024 92 (n 72003 49 e e) e))) (n 77925 2 (n 72416 99 (n 72388 55 (n 72227 132 e e) e) (n 72472 471 (n 72451 216 e e) e)) (n 78121 9 (n 78093 5 (n 77932 10 e e) e) (n 78156 21 e e)))) (n 80193 14 (n 78688 92 (n 78597 9 (n 78380 30 (n 78373 5 e e) e) (n 78660 49 (n 78632 14 e e) e)) (n 79941 14 (n 79913 14 (n 79885 5 e e) e) (n 79976 28 e e))) (n 80641 84 (n 80417 70 (n 80396 21 (n 80200 42 e e) e) (n 80480 162 (n 80452 70 e e) e)) (n 82027 21 (n 82013 5 (n 80648 288 e e) e) (n 82125 16 e e))))) (n 86220 35 (n 83560 162 (n 82664 64 (n 82461 16 (n 82265 126 (n 82251 42 e e) e) (n 82629 35 (n 82475 77 e e) e)) (n 83469 21 (n 82776 282 (n 82755 126 e e) e) (n 83525 70 (n 83497 70 e e) e))) (n 84568 450 (n 84491 42 (n 83784 288 (n 83777 84 e e) e) (n 84547 168 (n 84505 168 e e) e)) (n 86108 9 (n 84680 990 (n 84673 252 e e) e) (n 86115 49 e e)))) (n 87585 216 (n 86724 90 (n 86297 432 (n 86283 126 (n 86241 90 e e) e) (n 86563 216 (n 86556 35 e e) e)) (n 86808 1092 (n 86787 432 (n 86752 189 e e) e) (n 87564 56 e e))) (n 88089 768 (n 87809 300 (n 87648 567 (n 87620 216 e e) e) (n 88075 168 (n 87816 1155 e e) e)) (n 88257 1320 (n 88152 2310 (n 88131 768 e e) e) (n 88264 5775 e e)))))))) (n 140813 56 (n 117258 42 (n 105120 309 (n 101137 384 (n 100437 5 (n 99429 3 (n 99114 6 (n 99093 3 (n 98988 4 e e) e) (n 99170 26 (n 99156 9 e e) e)) (n 99625 10 (n 99597 6 (n 99436 15 e e) e) (n 99681 55 (n 99660 26 e e) e))) (n 100948 14 (n 100521 35 (n 100493 16 (n 100458 16 e e) e) (n 100689 70 (n 100682 21 e e) e)) (n 101025 146 (n 101004 56 (n 100962 56 e e) e) (n 101130 98 e e)))) (n 103748 55 (n 102754 132 (n 102677 11 (n 102572 15 (n 102565 3 e e) e) (n 102740 40 (n 102698 26 e e) e)) (n 103685 10 (n 103468 36 (n 103461 6 e e) e) (n 103720 15 e e))) (n 104770 70 (n 104490 56 (n 104469 16 (n 103776 99 e e) e) (n 104616 64 (n 104581 35 e e) e)) (n 104994 244 (n 104980 56 (n 104784 162
  e e) e) (n 105092 146 e e))))) (n 109124 384 (n 107304 64 (n 106793 35 (n 106597 5 (n 105232 1017 (n 105218 384 e e) e) (n 106765 16 (n 106604 30 e e) e)) (n 107045 16 (n 106849 216 (n 106828 77 e e) e) (n 107269 35 (n 107052 112 e e) e))) (n 108648 162 (n 108557 21 (n 107360 471 (n 107332 216 e e) e) (n 108613 70 (n 108585 70 e e) e)) (n 109068 98 (n 108872 288 (n 108865 84 e e) e) (n 109089 384 e e)))) (n 115242 98 (n 114829 21 (n 109320 2145 (n 109313 552 (n 109152 1017 e e) e) (n 114794 21 (n 114773 5 e e) e)) (n 115025 168 (n 115018 42 (n 114857 56 e e) e) (n 115221 21 e e))) (n 115753 168 (n 115522 168 (n 115368 120 (n 115333 56 e e) e) (n 115725 42 (n 115536 450 e e) e)) (n 116033 252 (n 115816 450 (n 115781 168 e e) e) (n 116040 990 e e)))))) (n 132777 90 (n 120072 5775 (n 119316 70 (n 118868 14 (n 117328 660 (n 117314 210 (n 117265 210 e e) e) (n 117384 2112 (n 117377 462 e e) e)) (n 118945 216 (n 118924 70 (n 118882 70 e e) e) (n 119057 768 (n 119050 168 e e) e))) (n 119820 168 (n 119456 525 (n 119428 216 (n 119330 384 e e) e) (n 119568 2310 (n 119554 768 e e) e)) (n 119904 2310 (n 119876 768 (n 119841 768 e e) e) (n 120065 1320 e e)))) (n 131923 9 (n 120968 15015 (n 120898 1188 (n 120849 1188 (n 120842 210 e e) e) (n 120961 2970 (n 120912 4158 e e) e)) (n 131797 4 (n 131755 4 (n 131741 1 e e) e) (n 131818 10 e e))) (n 132427 35 (n 132203 19 (n 132189 4 (n 131930 35 e e) e) (n 132329 20 (n 132301 10 e e) e)) (n 132714 35 (n 132693 9 (n 132441 90 e e) e) (n 132749 35 e e))))) (n 136837 90 (n 135402 55 (n 133785 216 (n 133715 14 (n 132945 216 (n 132938 56 e e) e) (n 133771 70 (n 133722 70 e e) e)) (n 135325 4 (n 133841 768 (n 133834 168 e e) e) (n 135381 19 (n 135339 19 e e) e))) (n 136424 35 (n 136221 10 (n 135514 216 (n 135507 49 e e) e) (n 136389 20 (n 136235 55 e e) e)) (n 136725 35 (n 136536 189 (n 136515 90 e e) e) (n 136746 146 e e)))) (n 139371 49 (n 137859 216 (n 137040 567 (n 137026 216 (n 136872 189 e e) e) (n 137754 384 (n 137747 70 e e) e)) (n 137936 2310 (n 137922 768 (n 137880 525 e e) e) (n 139357 9 e e))) (n 139819 216 (n 139595 126 (n 139497 90 (n 139469 35 e e) e) (n 139805 35 (n 139609 432 e e) e)) (n 140099 432 (n 140008 189 (n 139973 90 e e) e) (n 140120 1092 e e))))))) (n 168988 15 (n 152216 825 (n 144208 2310 (n 143445 14 (n 141835 168 (n 140904 567 (n 140869 216 (n 140841 216 e e) e) (n 141128 1155 (n 141121 300 e e) e)) (n 141912 2310 (n 141891 768 (n 141849 768 e e) e) (n 142024 5775 (n 142017 1320 e e) e))) (n 143893 70 (n 143529 216 (n 143501 70 (n 143466 70 e e) e) (n 143697 768 (n 143690 168 e e) e)) (n 144040 525 (n 144005 216 (n 143914 384 e e) e) (n 144194 768 e e)))) (n 146049 2970 (n 144712 5775 (n 144453 768 (n 144425 768 (n 144397 168 e e) e) (n 144705 1320 (n 144488 2310 e e) e)) (n 145986 1188 (n 145937 1188 (n 145930 210 e e) e) (n 146000 4158 e e))) (n 151754 252 (n 151642 84 (n 151635 14 (n 146056 15015 e e) e) (n 151705 300 (n 151691 84 e e) e)) (n 152090 552 (n 152083 84 (n 151761 1320 e e) e)
  (n 152195 300 e e))))) (n 165068 15 (n 153168 11583 (n 152664 4455 (n 152587 252 (n 152272 4455 (n 152258 1320 e e) e) (n 152643 1320 (n 152601 1320 e e) e)) (n 153098 462 (n 152776 12870 (n 152769 2640 e e) e) (n 153154 2970 (n 153105 2970 e e) e))) (n 164578 15 (n 164508 1 (n 153224 48048 (n 153217 8580 e e) e) (n 164564 5 (n 164515 5 e e) e)) (n 164956 5 (n 164634 64 (n 164627 14 e e) e) (n 164963 29 e e)))) (n 165978 162 (n 165516 64 (n 165145 189 (n 165131 64 (n 165089 35 e e) e) (n 165474 64 (n 165460 14 e e) e)) (n 165649 525 (n 165642 120 (n 165537 189 e e) e) (n 165971 28 e e))) (n 168099 29 (n 166090 450 (n 166041 567 (n 166027 162 e e) e) (n 168092 5 (n 166097 2310 e e) e)) (n 168211 92 (n 168162 99 (n 168148 29 e e) e) (n 168218 471 e e)))))) (n 176289 567 (n 172313 1092 (n 170003 162 (n 169492 64 (n 169184 70 (n 169156 35 (n 168995 99 e e) e) (n 169240 448 (n 169219 189 e e) e)) (n 169632 448 (n 169604 189 (n 169506 309 e e) e) (n 169744 1540 (n 169730 525 e e) e))) (n 172124 14 (n 170136 1540 (n 170115 567 (n 170010 1017 e e) e) (n 170192 7700 (n 170178 2310 e e) e)) (n 172257 189 (n 172236 64 (n 172131 92 e e) e) (n 172299 282 e e)))) (n 173825 825 (n 172824 3080 (n 172740 189 (n 172579 471 (n 172572 64 e e) e) (n 172803 1092 (n 172768 448 e e) e)) (n 173636 525 (n 173601 525 (n 173580 120 e e) e) (n 173664 1540 e e))) (n 174273 4455 (n 174105 2310 (n 174091 450 (n 173832 3520 e e) e) (n 174168 7700 (n 174147 2310 e e) e)) (n 176226 162 (n 176212 28 (n 174280 21450 e e) e) (n 176268 162 e e))))) (n 180363 288 (n 177248 7700 (n 176800 1540 (n 176660 162 (n 176401 2310 (n 176394 450 e e) e) (n 176772 567 (n 176674 1017 e e) e)) (n 177164 450 (n 176912 7700 (n 176898 2310 e e) e) (n 177220 2310 (n 177185 2310 e e) e))) (n 178256 16016 (n 178186 660 (n 177416 21450 (n 177409 4455 e e) e) (n 178242 4158 (n 178193 4158 e e) e)) (n 180307 42 (n 178312 64064 (n 178305 11583 e e) e) (n 180314 288 e e)))) (n 181273 5775 (n 180867 1155 (n 180433 5775 (n 180426 990 (n 180377 1155 e e) e) (n 180762 2145 (n 180755 288 e e) e)) (n 180944 21450 (n 180930 5775 (n 180888 3520 e e) e) (n 181259 990 e e))) (n 181777 15015 (n 181441 12870 (n 181336 21450 (n 181315 5775 e e) e) (n 181770 2112 (n 181448 68640 e e) e)) (n 181889 48048 (n 181840 64064 (n 181826 15015 e e) e) (n 181896 292864 e e)))))))))
theorem chk6 : chkT 6 tr6 = true := by decide +kernel
theorem byLen6 : byLen 6 = [1, 5, 20, 68, 210, 588, 1540, 3778, 8768, 19402, 40284, 78276, 137236, 219362, 292864, 292864] := by
  rw [byLen_find chk6 (by decide) (by decide)]
  decide +kernel
/-- The longest ladders of so many wires lead to the order backwards. -/
def downL (n : Nat) : List Int := (ident n).reverse
/-- How many these are. -/
def longF : Nat → Int
  | 2 => 1
  | 3 => 2
  | 4 => 16
  | 5 => 768
  | 6 => 292864
  | _ => 0
theorem longest2 : cntF 16 (downL 2) = 1 := by
  rw [cnt_find chk2 16 (downL 2) (by decide +kernel) (by decide +kernel) (by decide +kernel)]
  decide +kernel
theorem longest3 : cntF 16 (downL 3) = 2 := by
  rw [cnt_find chk3 16 (downL 3) (by decide +kernel) (by decide +kernel) (by decide +kernel)]
  decide +kernel
theorem longest4 : cntF 16 (downL 4) = 16 := by
  rw [cnt_find chk4 16 (downL 4) (by decide +kernel) (by decide +kernel) (by decide +kernel)]
  decide +kernel
theorem longest5 : cntF 16 (downL 5) = 768 := by
  rw [cnt_find chk5 16 (downL 5) (by decide +kernel) (by decide +kernel) (by decide +kernel)]
  decide +kernel
theorem longest6 : cntF 16 (downL 6) = 292864 := by
  rw [cnt_find chk6 16 (downL 6) (by decide +kernel) (by decide +kernel) (by decide +kernel)]
  decide +kernel
end Go.Proofs.YtnddmmjofpfmfaaL
