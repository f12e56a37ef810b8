import Derived.Test.YthnmpkhjpfhloaaDoorNk
namespace Go.Proofs.YthnmpkhjpfhloaaDoor.M
set_option maxRecDepth 1000000 in
theorem run8 : kMany (nat_lit 1000) (nat_lit 365602951) (nat_lit 4150781828) (nat_lit 1268961766) (nat_lit 2892834699) (nat_lit 688178498) (nat_lit 3951390503) (nat_lit 324146750) (nat_lit 394001364) (kIs (nat_lit 3818293026) (nat_lit 673805928) (nat_lit 2454018847) (nat_lit 276474797) (nat_lit 3429612345) (nat_lit 1781107536) (nat_lit 3881786715) (nat_lit 3255356261)) = true := by decide +kernel
set_option maxRecDepth 1000000 in
theorem run9 : kMany (nat_lit 1000) (nat_lit 3818293026) (nat_lit 673805928) (nat_lit 2454018847) (nat_lit 276474797) (nat_lit 3429612345) (nat_lit 1781107536) (nat_lit 3881786715) (nat_lit 3255356261) (kIs (nat_lit 1482359619) (nat_lit 3053920332) (nat_lit 2218581276) (nat_lit 956914467) (nat_lit 3284847132) (nat_lit 1532092920) (nat_lit 4107310820) (nat_lit 2931061524)) = true := by decide +kernel
set_option maxRecDepth 1000000 in
theorem run10 : kMany (nat_lit 1000) (nat_lit 1482359619) (nat_lit 3053920332) (nat_lit 2218581276) (nat_lit 956914467) (nat_lit 3284847132) (nat_lit 1532092920) (nat_lit 4107310820) (nat_lit 2931061524) (kIs (nat_lit 4096498801) (nat_lit 2730981357) (nat_lit 368208555) (nat_lit 2288836688) (nat_lit 2318021256) (nat_lit 4247003884) (nat_lit 1096726684) (nat_lit 2260101034)) = true := by decide +kernel
set_option maxRecDepth 1000000 in
theorem run11 : kMany (nat_lit 1000) (nat_lit 4096498801) (nat_lit 2730981357) (nat_lit 368208555) (nat_lit 2288836688) (nat_lit 2318021256) (nat_lit 4247003884) (nat_lit 1096726684) (nat_lit 2260101034) (kIs (nat_lit 1452105697) (nat_lit 332993037) (nat_lit 4062823241) (nat_lit 378816347) (nat_lit 216171789) (nat_lit 2684076044) (nat_lit 1651074104) (nat_lit 495955238)) = true := by decide +kernel
end Go.Proofs.YthnmpkhjpfhloaaDoor.M
