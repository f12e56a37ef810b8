import Derived.Test.YthnmpkhjpfhloaaDoorNk1
import Derived.Test.YthnmpkhjpfhloaaDoorNk2
import Derived.Test.YthnmpkhjpfhloaaDoorNk3
import Derived.Test.YthnmpkhjpfhloaaDoorNk4
import Derived.Test.YthnmpkhjpfhloaaDoorMp
namespace Go.Proofs.YthnmpkhjpfhloaaDoor.M
open Go.RowKit Go.Proofs.YthnmpkhjpfhloaaDoorW.PrintWords
set_option linter.unusedVariables false
theorem at0 : itS 1000 [1779033703, 3144134277, 1013904242, 2773480762, 1359893119, 2600822924, 528734635, 1541459225] = [592955532, 2302009565, 1748763303, 620342633, 184731725, 2631534163, 3459837949, 3784806294] := many_itS (W32_eight (by decide) (by decide) (by decide) (by decide) (by decide) (by decide) (by decide) (by decide)) run0
theorem at1 : itS 1000 [592955532, 2302009565, 1748763303, 620342633, 184731725, 2631534163, 3459837949, 3784806294] = [2432425355, 3561878610, 792915513, 120060592, 1730627794, 3100338481, 1484380738, 2413567509] := many_itS (W32_eight (by decide) (by decide) (by decide) (by decide) (by decide) (by decide) (by decide) (by decide)) run1
theorem at2 : itS 1000 [2432425355, 3561878610, 792915513, 120060592, 1730627794, 3100338481, 1484380738, 2413567509] = [3693792429, 3228489383, 1920063468, 1159363938, 1995865486, 3899395093, 1070489690, 3818696068] := many_itS (W32_eight (by decide) (by decide) (by decide) (by decide) (by decide) (by decide) (by decide) (by decide)) run2
theorem at3 : itS 1000 [3693792429, 3228489383, 1920063468, 1159363938, 1995865486, 3899395093, 1070489690, 3818696068] = [2905972929, 1349376393, 1639850357, 1032224573, 4087654825, 844508927, 142727850, 1826949263] := many_itS (W32_eight (by decide) (by decide) (by decide) (by decide) (by decide) (by decide) (by decide) (by decide)) run3
theorem at4 : itS 1000 [2905972929, 1349376393, 1639850357, 1032224573, 4087654825, 844508927, 142727850, 1826949263] = [4101075154, 129573525, 758111687, 2809097055, 2946173745, 4125254953, 3590949913, 2694474649] := many_itS (W32_eight (by decide) (by decide) (by decide) (by decide) (by decide) (by decide) (by decide) (by decide)) run4
theorem at5 : itS 1000 [4101075154, 129573525, 758111687, 2809097055, 2946173745, 4125254953, 3590949913, 2694474649] = [4254606125, 2806188846, 3777365106, 2684039259, 2563108456, 3262562783, 1651969283, 215006605] := many_itS (W32_eight (by decide) (by decide) (by decide) (by decide) (by decide) (by decide) (by decide) (by decide)) run5
theorem at6 : itS 1000 [4254606125, 2806188846, 3777365106, 2684039259, 2563108456, 3262562783, 1651969283, 215006605] = [2886889284, 2599971770, 2205939323, 3855558067, 1633335210, 3181097314, 2286572733, 563518467] := many_itS (W32_eight (by decide) (by decide) (by decide) (by decide) (by decide) (by decide) (by decide) (by decide)) run6
theorem at7 : itS 1000 [2886889284, 2599971770, 2205939323, 3855558067, 1633335210, 3181097314, 2286572733, 563518467] = [365602951, 4150781828, 1268961766, 2892834699, 688178498, 3951390503, 324146750, 394001364] := many_itS (W32_eight (by decide) (by decide) (by decide) (by decide) (by decide) (by decide) (by decide) (by decide)) run7
theorem at8 : itS 1000 [365602951, 4150781828, 1268961766, 2892834699, 688178498, 3951390503, 324146750, 394001364] = [3818293026, 673805928, 2454018847, 276474797, 3429612345, 1781107536, 3881786715, 3255356261] := many_itS (W32_eight (by decide) (by decide) (by decide) (by decide) (by decide) (by decide) (by decide) (by decide)) run8
theorem at9 : itS 1000 [3818293026, 673805928, 2454018847, 276474797, 3429612345, 1781107536, 3881786715, 3255356261] = [1482359619, 3053920332, 2218581276, 956914467, 3284847132, 1532092920, 4107310820, 2931061524] := many_itS (W32_eight (by decide) (by decide) (by decide) (by decide) (by decide) (by decide) (by decide) (by decide)) run9
theorem at10 : itS 1000 [1482359619, 3053920332, 2218581276, 956914467, 3284847132, 1532092920, 4107310820, 2931061524] = [4096498801, 2730981357, 368208555, 2288836688, 2318021256, 4247003884, 1096726684, 2260101034] := many_itS (W32_eight (by decide) (by decide) (by decide) (by decide) (by decide) (by decide) (by decide) (by decide)) run10
theorem at11 : itS 1000 [4096498801, 2730981357, 368208555, 2288836688, 2318021256, 4247003884, 1096726684, 2260101034] = [1452105697, 332993037, 4062823241, 378816347, 216171789, 2684076044, 1651074104, 495955238] := many_itS (W32_eight (by decide) (by decide) (by decide) (by decide) (by decide) (by decide) (by decide) (by decide)) run11
theorem at12 : itS 1000 [1452105697, 332993037, 4062823241, 378816347, 216171789, 2684076044, 1651074104, 495955238] = [1928082961, 2860961623, 1904690592, 997958037, 4255195384, 1882369429, 3945749460, 2719203343] := many_itS (W32_eight (by decide) (by decide) (by decide) (by decide) (by decide) (by decide) (by decide) (by decide)) run12
theorem at13 : itS 1000 [1928082961, 2860961623, 1904690592, 997958037, 4255195384, 1882369429, 3945749460, 2719203343] = [2321800416, 2572043633, 3343100340, 3876063791, 4094606593, 839583183, 1226381485, 762067512] := many_itS (W32_eight (by decide) (by decide) (by decide) (by decide) (by decide) (by decide) (by decide) (by decide)) run13
theorem at14 : itS 1000 [2321800416, 2572043633, 3343100340, 3876063791, 4094606593, 839583183, 1226381485, 762067512] = [3286924927, 1855780753, 2608627564, 176370035, 705989294, 1480277143, 2994088020, 951416902] := many_itS (W32_eight (by decide) (by decide) (by decide) (by decide) (by decide) (by decide) (by decide) (by decide)) run14
theorem at15 : itS 625 [3286924927, 1855780753, 2608627564, 176370035, 705989294, 1480277143, 2994088020, 951416902] = [2061136107, 1745259042, 791610055, 2140370626, 1884297759, 3529239238, 671294972, 693152569] := many_itS (W32_eight (by decide) (by decide) (by decide) (by decide) (by decide) (by decide) (by decide) (by decide)) run15
theorem million_S : itS 15625 firstN = [2061136107, 1745259042, 791610055, 2140370626, 1884297759, 3529239238, 671294972, 693152569] := by
  show itS 15625 [1779033703, 3144134277, 1013904242, 2773480762, 1359893119, 2600822924, 528734635, 1541459225] = _
  rw [show (15625 : Nat) = 1000 + 14625 from rfl, itS_add, at0]
  rw [show (14625 : Nat) = 1000 + 13625 from rfl, itS_add, at1]
  rw [show (13625 : Nat) = 1000 + 12625 from rfl, itS_add, at2]
  rw [show (12625 : Nat) = 1000 + 11625 from rfl, itS_add, at3]
  rw [show (11625 : Nat) = 1000 + 10625 from rfl, itS_add, at4]
  rw [show (10625 : Nat) = 1000 + 9625 from rfl, itS_add, at5]
  rw [show (9625 : Nat) = 1000 + 8625 from rfl, itS_add, at6]
  rw [show (8625 : Nat) = 1000 + 7625 from rfl, itS_add, at7]
  rw [show (7625 : Nat) = 1000 + 6625 from rfl, itS_add, at8]
  rw [show (6625 : Nat) = 1000 + 5625 from rfl, itS_add, at9]
  rw [show (5625 : Nat) = 1000 + 4625 from rfl, itS_add, at10]
  rw [show (4625 : Nat) = 1000 + 3625 from rfl, itS_add, at11]
  rw [show (3625 : Nat) = 1000 + 2625 from rfl, itS_add, at12]
  rw [show (2625 : Nat) = 1000 + 1625 from rfl, itS_add, at13]
  rw [show (1625 : Nat) = 1000 + 625 from rfl, itS_add, at14]
  exact at15
theorem cut_like (n : Nat) : ∀ i, i < n → cut64 (padB (List.replicate (64 * n) 97)) (64 * i) = a64 := by
  intro i hi
  unfold padB
  rw [cut64_append _ _ _ (by rw [List.length_replicate]; omega)]
  unfold cut64 a64
  rw [List.drop_replicate, List.take_replicate]
  congr 1
  omega
theorem hash_like (n : Nat) : ∀ i, i ≤ n → hashB (padB (List.replicate (64 * n) 97)) i = itS i firstN
  | 0, _ => rfl
  | i + 1, h => by rw [hashB, hash_like n i (by omega), cut_like n i (by omega), itS_last]
theorem sum_like (n : Nat) : sumL (List.replicate (64 * n) 97) = keyL (overN (itS n firstN) (tailB (64 * n))) := by
  have hz : zlen (64 * n) = 55 := by unfold zlen; omega
  have hl : (List.replicate (64 * n) (97 : Int)).length = 64 * n := List.length_replicate
  have hp : (padB (List.replicate (64 * n) (97 : Int))).length / 64 = n + 1 := by rw [padB_len, hl, hz]; omega
  unfold sumL
  rw [hp, hashB, hash_like n n (Nat.le_refl _)]
  have hc : cut64 (padB (List.replicate (64 * n) (97 : Int))) (64 * n) = tailB (64 * n) := by
    unfold cut64 padB
    rw [List.drop_left' hl, hl, List.take_of_length_le (by rw [tailB_len, hz]; omega)]
  rw [hc]
def emptyL : List Int := [227, 176, 196, 66, 152, 252, 28, 20, 154, 251, 244, 200, 153, 111, 185, 36, 39, 174, 65, 228, 100, 155, 147, 76, 164, 149, 153, 27, 120, 82, 184, 85]
def longL : List Int := [97, 98, 99, 100, 98, 99, 100, 101, 99, 100, 101, 102, 100, 101, 102, 103, 101, 102, 103, 104, 102, 103, 104, 105, 103, 104, 105, 106, 104, 105, 106, 107, 105, 106, 107, 108, 106, 107, 108, 109, 107, 108, 109, 110, 108, 109, 110, 111, 109, 110, 111, 112, 110, 111, 112, 113]
def longS : List Int := [36, 141, 106, 97, 210, 6, 56, 184, 229, 192, 38, 147, 12, 62, 96, 57, 163, 60, 228, 89, 100, 255, 33, 103, 246, 236, 237, 212, 25, 219, 6, 193]
def millionL : List Int := [205, 199, 110, 92, 153, 20, 251, 146, 129, 161, 199, 226, 132, 215, 62, 103, 241, 128, 154, 72, 164, 151, 32, 14, 4, 109, 57, 204, 199, 17, 44, 208]
theorem sum_empty : sumL [] = emptyL := by kernel_rfl
theorem sum_long : sumL longL = longS := by kernel_rfl
theorem sum_million : sumL (List.replicate 1000000 97) = millionL := by
  rw [show (1000000 : Nat) = 64 * 15625 from rfl, sum_like, million_S]
  kernel_rfl
end Go.Proofs.YthnmpkhjpfhloaaDoor.M
