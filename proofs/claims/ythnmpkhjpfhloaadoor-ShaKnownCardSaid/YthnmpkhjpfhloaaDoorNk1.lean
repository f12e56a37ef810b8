import Derived.Test.YthnmpkhjpfhloaaDoorNk
namespace Go.Proofs.YthnmpkhjpfhloaaDoor.M
set_option maxRecDepth 1000000 in
theorem run0 : kMany (nat_lit 1000) (nat_lit 1779033703) (nat_lit 3144134277) (nat_lit 1013904242) (nat_lit 2773480762) (nat_lit 1359893119) (nat_lit 2600822924) (nat_lit 528734635) (nat_lit 1541459225) (kIs (nat_lit 592955532) (nat_lit 2302009565) (nat_lit 1748763303) (nat_lit 620342633) (nat_lit 184731725) (nat_lit 2631534163) (nat_lit 3459837949) (nat_lit 3784806294)) = true := by decide +kernel
set_option maxRecDepth 1000000 in
theorem run1 : kMany (nat_lit 1000) (nat_lit 592955532) (nat_lit 2302009565) (nat_lit 1748763303) (nat_lit 620342633) (nat_lit 184731725) (nat_lit 2631534163) (nat_lit 3459837949) (nat_lit 3784806294) (kIs (nat_lit 2432425355) (nat_lit 3561878610) (nat_lit 792915513) (nat_lit 120060592) (nat_lit 1730627794) (nat_lit 3100338481) (nat_lit 1484380738) (nat_lit 2413567509)) = true := by decide +kernel
set_option maxRecDepth 1000000 in
theorem run2 : kMany (nat_lit 1000) (nat_lit 2432425355) (nat_lit 3561878610) (nat_lit 792915513) (nat_lit 120060592) (nat_lit 1730627794) (nat_lit 3100338481) (nat_lit 1484380738) (nat_lit 2413567509) (kIs (nat_lit 3693792429) (nat_lit 3228489383) (nat_lit 1920063468) (nat_lit 1159363938) (nat_lit 1995865486) (nat_lit 3899395093) (nat_lit 1070489690) (nat_lit 3818696068)) = true := by decide +kernel
set_option maxRecDepth 1000000 in
theorem run3 : kMany (nat_lit 1000) (nat_lit 3693792429) (nat_lit 3228489383) (nat_lit 1920063468) (nat_lit 1159363938) (nat_lit 1995865486) (nat_lit 3899395093) (nat_lit 1070489690) (nat_lit 3818696068) (kIs (nat_lit 2905972929) (nat_lit 1349376393) (nat_lit 1639850357) (nat_lit 1032224573) (nat_lit 4087654825) (nat_lit 844508927) (nat_lit 142727850) (nat_lit 1826949263)) = true := by decide +kernel
end Go.Proofs.YthnmpkhjpfhloaaDoor.M
