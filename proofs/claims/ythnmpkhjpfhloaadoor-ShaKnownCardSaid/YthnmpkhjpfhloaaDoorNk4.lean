import Derived.Test.YthnmpkhjpfhloaaDoorNk
namespace Go.Proofs.YthnmpkhjpfhloaaDoor.M
set_option maxRecDepth 1000000 in
theorem run12 : kMany (nat_lit 1000) (nat_lit 1452105697) (nat_lit 332993037) (nat_lit 4062823241) (nat_lit 378816347) (nat_lit 216171789) (nat_lit 2684076044) (nat_lit 1651074104) (nat_lit 495955238) (kIs (nat_lit 1928082961) (nat_lit 2860961623) (nat_lit 1904690592) (nat_lit 997958037) (nat_lit 4255195384) (nat_lit 1882369429) (nat_lit 3945749460) (nat_lit 2719203343)) = true := by decide +kernel
set_option maxRecDepth 1000000 in
theorem run13 : kMany (nat_lit 1000) (nat_lit 1928082961) (nat_lit 2860961623) (nat_lit 1904690592) (nat_lit 997958037) (nat_lit 4255195384) (nat_lit 1882369429) (nat_lit 3945749460) (nat_lit 2719203343) (kIs (nat_lit 2321800416) (nat_lit 2572043633) (nat_lit 3343100340) (nat_lit 3876063791) (nat_lit 4094606593) (nat_lit 839583183) (nat_lit 1226381485) (nat_lit 762067512)) = true := by decide +kernel
set_option maxRecDepth 1000000 in
theorem run14 : kMany (nat_lit 1000) (nat_lit 2321800416) (nat_lit 2572043633) (nat_lit 3343100340) (nat_lit 3876063791) (nat_lit 4094606593) (nat_lit 839583183) (nat_lit 1226381485) (nat_lit 762067512) (kIs (nat_lit 3286924927) (nat_lit 1855780753) (nat_lit 2608627564) (nat_lit 176370035) (nat_lit 705989294) (nat_lit 1480277143) (nat_lit 2994088020) (nat_lit 951416902)) = true := by decide +kernel
set_option maxRecDepth 1000000 in
theorem run15 : kMany (nat_lit 625) (nat_lit 3286924927) (nat_lit 1855780753) (nat_lit 2608627564) (nat_lit 176370035) (nat_lit 705989294) (nat_lit 1480277143) (nat_lit 2994088020) (nat_lit 951416902) (kIs (nat_lit 2061136107) (nat_lit 1745259042) (nat_lit 791610055) (nat_lit 2140370626) (nat_lit 1884297759) (nat_lit 3529239238) (nat_lit 671294972) (nat_lit 693152569)) = true := by decide +kernel
end Go.Proofs.YthnmpkhjpfhloaaDoor.M
