import Derived.Test.YthnmpkhjpfhloaaDoorNk
namespace Go.Proofs.YthnmpkhjpfhloaaDoor.M
set_option maxRecDepth 1000000 in
theorem run4 : kMany (nat_lit 1000) (nat_lit 2905972929) (nat_lit 1349376393) (nat_lit 1639850357) (nat_lit 1032224573) (nat_lit 4087654825) (nat_lit 844508927) (nat_lit 142727850) (nat_lit 1826949263) (kIs (nat_lit 4101075154) (nat_lit 129573525) (nat_lit 758111687) (nat_lit 2809097055) (nat_lit 2946173745) (nat_lit 4125254953) (nat_lit 3590949913) (nat_lit 2694474649)) = true := by decide +kernel
set_option maxRecDepth 1000000 in
theorem run5 : kMany (nat_lit 1000) (nat_lit 4101075154) (nat_lit 129573525) (nat_lit 758111687) (nat_lit 2809097055) (nat_lit 2946173745) (nat_lit 4125254953) (nat_lit 3590949913) (nat_lit 2694474649) (kIs (nat_lit 4254606125) (nat_lit 2806188846) (nat_lit 3777365106) (nat_lit 2684039259) (nat_lit 2563108456) (nat_lit 3262562783) (nat_lit 1651969283) (nat_lit 215006605)) = true := by decide +kernel
set_option maxRecDepth 1000000 in
theorem run6 : kMany (nat_lit 1000) (nat_lit 4254606125) (nat_lit 2806188846) (nat_lit 3777365106) (nat_lit 2684039259) (nat_lit 2563108456) (nat_lit 3262562783) (nat_lit 1651969283) (nat_lit 215006605) (kIs (nat_lit 2886889284) (nat_lit 2599971770) (nat_lit 2205939323) (nat_lit 3855558067) (nat_lit 1633335210) (nat_lit 3181097314) (nat_lit 2286572733) (nat_lit 563518467)) = true := by decide +kernel
set_option maxRecDepth 1000000 in
theorem run7 : kMany (nat_lit 1000) (nat_lit 2886889284) (nat_lit 2599971770) (nat_lit 2205939323) (nat_lit 3855558067) (nat_lit 1633335210) (nat_lit 3181097314) (nat_lit 2286572733) (nat_lit 563518467) (kIs (nat_lit 365602951) (nat_lit 4150781828) (nat_lit 1268961766) (nat_lit 2892834699) (nat_lit 688178498) (nat_lit 3951390503) (nat_lit 324146750) (nat_lit 394001364)) = true := by decide +kernel
end Go.Proofs.YthnmpkhjpfhloaaDoor.M
