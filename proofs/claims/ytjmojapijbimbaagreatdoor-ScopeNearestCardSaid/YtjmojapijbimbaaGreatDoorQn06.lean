/- A part of the proof of the law: Ins0, Ins1. Conditions: none. -/
import Derived.Test.YtjmojapijbimbaaGreatDoorProg
import Derived.KernelRfl
import Derived.Laws.Externs
import Derived.Test.YtjmojapijbimbaaGreatDoorQn02
import Derived.Test.YtjmojapijbimbaaGreatDoorQn03
set_option linter.unusedVariables false
set_option linter.unusedSimpArgs false
section
namespace Go.Eng
open Go.Proofs
noncomputable def fnsT000 : Tr Func := (.br (.br (.br (.br (.br (.br (.br (.leaf Tryz.f0) .nil) (.br (.leaf Tryz.f256) .nil)) (.br (.br (.leaf Tryz.f128) .nil) (.br (.leaf Tryz.f384) .nil))) (.br (.br (.br (.leaf Tryz.f64) .nil) (.br (.leaf Tryz.f320) .nil)) (.br (.br (.leaf Tryz.f192) .nil) .nil))) (.br (.br (.br (.br (.leaf Tryz.f32) .nil) (.br (.leaf Tryz.f288) .nil)) (.br (.br (.leaf Tryz.f160) .nil) .nil)) (.br (.br (.br (.leaf Tryz.f96) .nil) (.br (.leaf Tryz.f352) .nil)) (.br (.br (.leaf Tryz.f224) .nil) .nil)))) (.br (.br (.br (.br (.br (.leaf Tryz.f16) .nil) (.br (.leaf Tryz.f272) .nil)) (.br (.br (.leaf Tryz.f144) .nil) .nil)) (.br (.br (.br (.leaf Tryz.f80) .nil) (.br (.leaf Tryz.f336) .nil)) (.br (.br (.leaf Tryz.f208) .nil) .nil))) (.br (.br (.br (.br (.leaf Tryz.f48) .nil) (.br (.leaf Tryz.f304) .nil)) (.br (.br (.leaf Tryz.f176) .nil) .nil)) (.br (.br (.br (.leaf Tryz.f112) .nil) (.br (.leaf Tryz.f368) .nil)) (.br (.br (.leaf Tryz.f240) .nil) .nil))))) (.br (.br (.br (.br (.br (.br (.leaf Tryz.f8) .nil) (.br (.leaf Tryz.f264) .nil)) (.br (.br (.leaf Tryz.f136) .nil) .nil)) (.br (.br (.br (.leaf Tryz.f72) .nil) (.br (.leaf Tryz.f328) .nil)) (.br (.br (.leaf Tryz.f200) .nil) .nil))) (.br (.br (.br (.br (.leaf Tryz.f40) .nil) (.br (.leaf Tryz.f296) .nil)) (.br (.br (.leaf Tryz.f168) .nil) .nil)) (.br (.br (.br (.leaf Tryz.f104) .nil) (.br (.leaf Tryz.f360) .nil)) (.br (.br (.leaf Tryz.f232) .nil) .nil)))) (.br (.br (.br (.br (.br (.leaf Tryz.f24) .nil) (.br (.leaf Tryz.f280) .nil)) (.br (.br (.leaf Tryz.f152) .nil) .nil)) (.br (.br (.br (.leaf Tryz.f88) .nil) (.br (.leaf Tryz.f344) .nil)) (.br (.br (.leaf Tryz.f216) .nil) .nil))) (.br (.br (.br (.br (.leaf Tryz.f56) .nil) (.br (.leaf Tryz.f312) .nil)) (.br (.br (.leaf Tryz.f184) .nil) .nil)) (.br (.br (.br (.leaf Tryz.f120) .nil) (.br (.leaf Tryz.f376) .nil)) (.br (.br (.leaf Tryz.f248) .nil) .nil))))))
noncomputable def fnsT001 : Tr Func := (.br (.br (.br (.br (.br (.br (.br (.leaf Tryz.f4) .nil) (.br (.leaf Tryz.f260) .nil)) (.br (.br (.leaf Tryz.f132) .nil) (.br (.leaf Tryz.f388) .nil))) (.br (.br (.br (.leaf Tryz.f68) .nil) (.br (.leaf Tryz.f324) .nil)) (.br (.br (.leaf Tryz.f196) .nil) .nil))) (.br (.br (.br (.br (.leaf Tryz.f36) .nil) (.br (.leaf Tryz.f292) .nil)) (.br (.br (.leaf Tryz.f164) .nil) .nil)) (.br (.br (.br (.leaf Tryz.f100) .nil) (.br (.leaf Tryz.f356) .nil)) (.br (.br (.leaf Tryz.f228) .nil) .nil)))) (.br (.br (.br (.br (.br (.leaf Tryz.f20) .nil) (.br (.leaf Tryz.f276) .nil)) (.br (.br (.leaf Tryz.f148) .nil) .nil)) (.br (.br (.br (.leaf Tryz.f84) .nil) (.br (.leaf Tryz.f340) .nil)) (.br (.br (.leaf Tryz.f212) .nil) .nil))) (.br (.br (.br (.br (.leaf Tryz.f52) .nil) (.br (.leaf Tryz.f308) .nil)) (.br (.br (.leaf Tryz.f180) .nil) .nil)) (.br (.br (.br (.leaf Tryz.f116) .nil) (.br (.leaf Tryz.f372) .nil)) (.br (.br (.leaf Tryz.f244) .nil) .nil))))) (.br (.br (.br (.br (.br (.br (.leaf Tryz.f12) .nil) (.br (.leaf Tryz.f268) .nil)) (.br (.br (.leaf Tryz.f140) .nil) .nil)) (.br (.br (.br (.leaf Tryz.f76) .nil) (.br (.leaf Tryz.f332) .nil)) (.br (.br (.leaf Tryz.f204) .nil) .nil))) (.br (.br (.br (.br (.leaf Tryz.f44) .nil) (.br (.leaf Tryz.f300) .nil)) (.br (.br (.leaf Tryz.f172) .nil) .nil)) (.br (.br (.br (.leaf Tryz.f108) .nil) (.br (.leaf Tryz.f364) .nil)) (.br (.br (.leaf Tryz.f236) .nil) .nil)))) (.br (.br (.br (.br (.br (.leaf Tryz.f28) .nil) (.br (.leaf Tryz.f284) .nil)) (.br (.br (.leaf Tryz.f156) .nil) .nil)) (.br (.br (.br (.leaf Tryz.f92) .nil) (.br (.leaf Tryz.f348) .nil)) (.br (.br (.leaf Tryz.f220) .nil) .nil))) (.br (.br (.br (.br (.leaf Tryz.f60) .nil) (.br (.leaf Tryz.f316) .nil)) (.br (.br (.leaf Tryz.f188) .nil) .nil)) (.br (.br (.br (.leaf Tryz.f124) .nil) (.br (.leaf Tryz.f380) .nil)) (.br (.br (.leaf Tryz.f252) .nil) .nil))))))
noncomputable def fnsT010 : Tr Func := (.br (.br (.br (.br (.br (.br (.br (.leaf Tryz.f2) .nil) (.br (.leaf Tryz.f258) .nil)) (.br (.br (.leaf Tryz.f130) .nil) (.br (.leaf Tryz.f386) .nil))) (.br (.br (.br (.leaf Tryz.f66) .nil) (.br (.leaf Tryz.f322) .nil)) (.br (.br (.leaf Tryz.f194) .nil) .nil))) (.br (.br (.br (.br (.leaf Tryz.f34) .nil) (.br (.leaf Tryz.f290) .nil)) (.br (.br (.leaf Tryz.f162) .nil) .nil)) (.br (.br (.br (.leaf Tryz.f98) .nil) (.br (.leaf Tryz.f354) .nil)) (.br (.br (.leaf Tryz.f226) .nil) .nil)))) (.br (.br (.br (.br (.br (.leaf Tryz.f18) .nil) (.br (.leaf Tryz.f274) .nil)) (.br (.br (.leaf Tryz.f146) .nil) .nil)) (.br (.br (.br (.leaf Tryz.f82) .nil) (.br (.leaf Tryz.f338) .nil)) (.br (.br (.leaf Tryz.f210) .nil) .nil))) (.br (.br (.br (.br (.leaf Tryz.f50) .nil) (.br (.leaf Tryz.f306) .nil)) (.br (.br (.leaf Tryz.f178) .nil) .nil)) (.br (.br (.br (.leaf Tryz.f114) .nil) (.br (.leaf Tryz.f370) .nil)) (.br (.br (.leaf Tryz.f242) .nil) .nil))))) (.br (.br (.br (.br (.br (.br (.leaf Tryz.f10) .nil) (.br (.leaf Tryz.f266) .nil)) (.br (.br (.leaf Tryz.f138) .nil) .nil)) (.br (.br (.br (.leaf Tryz.f74) .nil) (.br (.leaf Tryz.f330) .nil)) (.br (.br (.leaf Tryz.f202) .nil) .nil))) (.br (.br (.br (.br (.leaf Tryz.f42) .nil) (.br (.leaf Tryz.f298) .nil)) (.br (.br (.leaf Tryz.f170) .nil) .nil)) (.br (.br (.br (.leaf Tryz.f106) .nil) (.br (.leaf Tryz.f362) .nil)) (.br (.br (.leaf Tryz.f234) .nil) .nil)))) (.br (.br (.br (.br (.br (.leaf Tryz.f26) .nil) (.br (.leaf Tryz.f282) .nil)) (.br (.br (.leaf Tryz.f154) .nil) .nil)) (.br (.br (.br (.leaf Tryz.f90) .nil) (.br (.leaf Tryz.f346) .nil)) (.br (.br (.leaf Tryz.f218) .nil) .nil))) (.br (.br (.br (.br (.leaf Tryz.f58) .nil) (.br (.leaf Tryz.f314) .nil)) (.br (.br (.leaf Tryz.f186) .nil) .nil)) (.br (.br (.br (.leaf Tryz.f122) .nil) (.br (.leaf Tryz.f378) .nil)) (.br (.br (.leaf Tryz.f250) .nil) .nil))))))
noncomputable def fnsT011 : Tr Func := (.br (.br (.br (.br (.br (.br (.br (.leaf Tryz.f6) .nil) (.br (.leaf Tryz.f262) .nil)) (.br (.br (.leaf Tryz.f134) .nil) (.br (.leaf Tryz.f390) .nil))) (.br (.br (.br (.leaf Tryz.f70) .nil) (.br (.leaf Tryz.f326) .nil)) (.br (.br (.leaf Tryz.f198) .nil) .nil))) (.br (.br (.br (.br (.leaf Tryz.f38) .nil) (.br (.leaf Tryz.f294) .nil)) (.br (.br (.leaf Tryz.f166) .nil) .nil)) (.br (.br (.br (.leaf Tryz.f102) .nil) (.br (.leaf Tryz.f358) .nil)) (.br (.br (.leaf Tryz.f230) .nil) .nil)))) (.br (.br (.br (.br (.br (.leaf Tryz.f22) .nil) (.br (.leaf Tryz.f278) .nil)) (.br (.br (.leaf Tryz.f150) .nil) .nil)) (.br (.br (.br (.leaf Tryz.f86) .nil) (.br (.leaf Tryz.f342) .nil)) (.br (.br (.leaf Tryz.f214) .nil) .nil))) (.br (.br (.br (.br (.leaf Tryz.f54) .nil) (.br (.leaf Tryz.f310) .nil)) (.br (.br (.leaf Tryz.f182) .nil) .nil)) (.br (.br (.br (.leaf Tryz.f118) .nil) (.br (.leaf Tryz.f374) .nil)) (.br (.br (.leaf Tryz.f246) .nil) .nil))))) (.br (.br (.br (.br (.br (.br (.leaf Tryz.f14) .nil) (.br (.leaf Tryz.f270) .nil)) (.br (.br (.leaf Tryz.f142) .nil) .nil)) (.br (.br (.br (.leaf Tryz.f78) .nil) (.br (.leaf Tryz.f334) .nil)) (.br (.br (.leaf Tryz.f206) .nil) .nil))) (.br (.br (.br (.br (.leaf Tryz.f46) .nil) (.br (.leaf Tryz.f302) .nil)) (.br (.br (.leaf Tryz.f174) .nil) .nil)) (.br (.br (.br (.leaf Tryz.f110) .nil) (.br (.leaf Tryz.f366) .nil)) (.br (.br (.leaf Tryz.f238) .nil) .nil)))) (.br (.br (.br (.br (.br (.leaf Tryz.f30) .nil) (.br (.leaf Tryz.f286) .nil)) (.br (.br (.leaf Tryz.f158) .nil) .nil)) (.br (.br (.br (.leaf Tryz.f94) .nil) (.br (.leaf Tryz.f350) .nil)) (.br (.br (.leaf Tryz.f222) .nil) .nil))) (.br (.br (.br (.br (.leaf Tryz.f62) .nil) (.br (.leaf Tryz.f318) .nil)) (.br (.br (.leaf Tryz.f190) .nil) .nil)) (.br (.br (.br (.leaf Tryz.f126) .nil) (.br (.leaf Tryz.f382) .nil)) (.br (.br (.leaf Tryz.f254) .nil) .nil))))))
noncomputable def fnsT100 : Tr Func := (.br (.br (.br (.br (.br (.br (.br (.leaf Tryz.f1) .nil) (.br (.leaf Tryz.f257) .nil)) (.br (.br (.leaf Tryz.f129) .nil) (.br (.leaf Tryz.f385) .nil))) (.br (.br (.br (.leaf Tryz.f65) .nil) (.br (.leaf Tryz.f321) .nil)) (.br (.br (.leaf Tryz.f193) .nil) .nil))) (.br (.br (.br (.br (.leaf Tryz.f33) .nil) (.br (.leaf Tryz.f289) .nil)) (.br (.br (.leaf Tryz.f161) .nil) .nil)) (.br (.br (.br (.leaf Tryz.f97) .nil) (.br (.leaf Tryz.f353) .nil)) (.br (.br (.leaf Tryz.f225) .nil) .nil)))) (.br (.br (.br (.br (.br (.leaf Tryz.f17) .nil) (.br (.leaf Tryz.f273) .nil)) (.br (.br (.leaf Tryz.f145) .nil) .nil)) (.br (.br (.br (.leaf Tryz.f81) .nil) (.br (.leaf Tryz.f337) .nil)) (.br (.br (.leaf Tryz.f209) .nil) .nil))) (.br (.br (.br (.br (.leaf Tryz.f49) .nil) (.br (.leaf Tryz.f305) .nil)) (.br (.br (.leaf Tryz.f177) .nil) .nil)) (.br (.br (.br (.leaf Tryz.f113) .nil) (.br (.leaf Tryz.f369) .nil)) (.br (.br (.leaf Tryz.f241) .nil) .nil))))) (.br (.br (.br (.br (.br (.br (.leaf Tryz.f9) .nil) (.br (.leaf Tryz.f265) .nil)) (.br (.br (.leaf Tryz.f137) .nil) .nil)) (.br (.br (.br (.leaf Tryz.f73) .nil) (.br (.leaf Tryz.f329) .nil)) (.br (.br (.leaf Tryz.f201) .nil) .nil))) (.br (.br (.br (.br (.leaf Tryz.f41) .nil) (.br (.leaf Tryz.f297) .nil)) (.br (.br (.leaf Tryz.f169) .nil) .nil)) (.br (.br (.br (.leaf Tryz.f105) .nil) (.br (.leaf Tryz.f361) .nil)) (.br (.br (.leaf Tryz.f233) .nil) .nil)))) (.br (.br (.br (.br (.br (.leaf Tryz.f25) .nil) (.br (.leaf Tryz.f281) .nil)) (.br (.br (.leaf Tryz.f153) .nil) .nil)) (.br (.br (.br (.leaf Tryz.f89) .nil) (.br (.leaf Tryz.f345) .nil)) (.br (.br (.leaf Tryz.f217) .nil) .nil))) (.br (.br (.br (.br (.leaf Tryz.f57) .nil) (.br (.leaf Tryz.f313) .nil)) (.br (.br (.leaf Tryz.f185) .nil) .nil)) (.br (.br (.br (.leaf Tryz.f121) .nil) (.br (.leaf Tryz.f377) .nil)) (.br (.br (.leaf Tryz.f249) .nil) .nil))))))
noncomputable def fnsT101 : Tr Func := (.br (.br (.br (.br (.br (.br (.br (.leaf Tryz.f5) .nil) (.br (.leaf Tryz.f261) .nil)) (.br (.br (.leaf Tryz.f133) .nil) (.br (.leaf Tryz.f389) .nil))) (.br (.br (.br (.leaf Tryz.f69) .nil) (.br (.leaf Tryz.f325) .nil)) (.br (.br (.leaf Tryz.f197) .nil) .nil))) (.br (.br (.br (.br (.leaf Tryz.f37) .nil) (.br (.leaf Tryz.f293) .nil)) (.br (.br (.leaf Tryz.f165) .nil) .nil)) (.br (.br (.br (.leaf Tryz.f101) .nil) (.br (.leaf Tryz.f357) .nil)) (.br (.br (.leaf Tryz.f229) .nil) .nil)))) (.br (.br (.br (.br (.br (.leaf Tryz.f21) .nil) (.br (.leaf Tryz.f277) .nil)) (.br (.br (.leaf Tryz.f149) .nil) .nil)) (.br (.br (.br (.leaf Tryz.f85) .nil) (.br (.leaf Tryz.f341) .nil)) (.br (.br (.leaf Tryz.f213) .nil) .nil))) (.br (.br (.br (.br (.leaf Tryz.f53) .nil) (.br (.leaf Tryz.f309) .nil)) (.br (.br (.leaf Tryz.f181) .nil) .nil)) (.br (.br (.br (.leaf Tryz.f117) .nil) (.br (.leaf Tryz.f373) .nil)) (.br (.br (.leaf Tryz.f245) .nil) .nil))))) (.br (.br (.br (.br (.br (.br (.leaf Tryz.f13) .nil) (.br (.leaf Tryz.f269) .nil)) (.br (.br (.leaf Tryz.f141) .nil) .nil)) (.br (.br (.br (.leaf Tryz.f77) .nil) (.br (.leaf Tryz.f333) .nil)) (.br (.br (.leaf Tryz.f205) .nil) .nil))) (.br (.br (.br (.br (.leaf Tryz.f45) .nil) (.br (.leaf Tryz.f301) .nil)) (.br (.br (.leaf Tryz.f173) .nil) .nil)) (.br (.br (.br (.leaf Tryz.f109) .nil) (.br (.leaf Tryz.f365) .nil)) (.br (.br (.leaf Tryz.f237) .nil) .nil)))) (.br (.br (.br (.br (.br (.leaf Tryz.f29) .nil) (.br (.leaf Tryz.f285) .nil)) (.br (.br (.leaf Tryz.f157) .nil) .nil)) (.br (.br (.br (.leaf Tryz.f93) .nil) (.br (.leaf Tryz.f349) .nil)) (.br (.br (.leaf Tryz.f221) .nil) .nil))) (.br (.br (.br (.br (.leaf Tryz.f61) .nil) (.br (.leaf Tryz.f317) .nil)) (.br (.br (.leaf Tryz.f189) .nil) .nil)) (.br (.br (.br (.leaf Tryz.f125) .nil) (.br (.leaf Tryz.f381) .nil)) (.br (.br (.leaf Tryz.f253) .nil) .nil))))))
noncomputable def fnsT110 : Tr Func := (.br (.br (.br (.br (.br (.br (.br (.leaf Tryz.f3) .nil) (.br (.leaf Tryz.f259) .nil)) (.br (.br (.leaf Tryz.f131) .nil) (.br (.leaf Tryz.f387) .nil))) (.br (.br (.br (.leaf Tryz.f67) .nil) (.br (.leaf Tryz.f323) .nil)) (.br (.br (.leaf Tryz.f195) .nil) .nil))) (.br (.br (.br (.br (.leaf Tryz.f35) .nil) (.br (.leaf Tryz.f291) .nil)) (.br (.br (.leaf Tryz.f163) .nil) .nil)) (.br (.br (.br (.leaf Tryz.f99) .nil) (.br (.leaf Tryz.f355) .nil)) (.br (.br (.leaf Tryz.f227) .nil) .nil)))) (.br (.br (.br (.br (.br (.leaf Tryz.f19) .nil) (.br (.leaf Tryz.f275) .nil)) (.br (.br (.leaf Tryz.f147) .nil) .nil)) (.br (.br (.br (.leaf Tryz.f83) .nil) (.br (.leaf Tryz.f339) .nil)) (.br (.br (.leaf Tryz.f211) .nil) .nil))) (.br (.br (.br (.br (.leaf Tryz.f51) .nil) (.br (.leaf Tryz.f307) .nil)) (.br (.br (.leaf Tryz.f179) .nil) .nil)) (.br (.br (.br (.leaf Tryz.f115) .nil) (.br (.leaf Tryz.f371) .nil)) (.br (.br (.leaf Tryz.f243) .nil) .nil))))) (.br (.br (.br (.br (.br (.br (.leaf Tryz.f11) .nil) (.br (.leaf Tryz.f267) .nil)) (.br (.br (.leaf Tryz.f139) .nil) .nil)) (.br (.br (.br (.leaf Tryz.f75) .nil) (.br (.leaf Tryz.f331) .nil)) (.br (.br (.leaf Tryz.f203) .nil) .nil))) (.br (.br (.br (.br (.leaf Tryz.f43) .nil) (.br (.leaf Tryz.f299) .nil)) (.br (.br (.leaf Tryz.f171) .nil) .nil)) (.br (.br (.br (.leaf Tryz.f107) .nil) (.br (.leaf Tryz.f363) .nil)) (.br (.br (.leaf Tryz.f235) .nil) .nil)))) (.br (.br (.br (.br (.br (.leaf Tryz.f27) .nil) (.br (.leaf Tryz.f283) .nil)) (.br (.br (.leaf Tryz.f155) .nil) .nil)) (.br (.br (.br (.leaf Tryz.f91) .nil) (.br (.leaf Tryz.f347) .nil)) (.br (.br (.leaf Tryz.f219) .nil) .nil))) (.br (.br (.br (.br (.leaf Tryz.f59) .nil) (.br (.leaf Tryz.f315) .nil)) (.br (.br (.leaf Tryz.f187) .nil) .nil)) (.br (.br (.br (.leaf Tryz.f123) .nil) (.br (.leaf Tryz.f379) .nil)) (.br (.br (.leaf Tryz.f251) .nil) .nil))))))
noncomputable def fnsT111 : Tr Func := (.br (.br (.br (.br (.br (.br (.br (.leaf Tryz.f7) .nil) (.br (.leaf Tryz.f263) .nil)) (.br (.br (.leaf Tryz.f135) .nil) (.br (.leaf Tryz.f391) .nil))) (.br (.br (.br (.leaf Tryz.f71) .nil) (.br (.leaf Tryz.f327) .nil)) (.br (.br (.leaf Tryz.f199) .nil) .nil))) (.br (.br (.br (.br (.leaf Tryz.f39) .nil) (.br (.leaf Tryz.f295) .nil)) (.br (.br (.leaf Tryz.f167) .nil) .nil)) (.br (.br (.br (.leaf Tryz.f103) .nil) (.br (.leaf Tryz.f359) .nil)) (.br (.br (.leaf Tryz.f231) .nil) .nil)))) (.br (.br (.br (.br (.br (.leaf Tryz.f23) .nil) (.br (.leaf Tryz.f279) .nil)) (.br (.br (.leaf Tryz.f151) .nil) .nil)) (.br (.br (.br (.leaf Tryz.f87) .nil) (.br (.leaf Tryz.f343) .nil)) (.br (.br (.leaf Tryz.f215) .nil) .nil))) (.br (.br (.br (.br (.leaf Tryz.f55) .nil) (.br (.leaf Tryz.f311) .nil)) (.br (.br (.leaf Tryz.f183) .nil) .nil)) (.br (.br (.br (.leaf Tryz.f119) .nil) (.br (.leaf Tryz.f375) .nil)) (.br (.br (.leaf Tryz.f247) .nil) .nil))))) (.br (.br (.br (.br (.br (.br (.leaf Tryz.f15) .nil) (.br (.leaf Tryz.f271) .nil)) (.br (.br (.leaf Tryz.f143) .nil) .nil)) (.br (.br (.br (.leaf Tryz.f79) .nil) (.br (.leaf Tryz.f335) .nil)) (.br (.br (.leaf Tryz.f207) .nil) .nil))) (.br (.br (.br (.br (.leaf Tryz.f47) .nil) (.br (.leaf Tryz.f303) .nil)) (.br (.br (.leaf Tryz.f175) .nil) .nil)) (.br (.br (.br (.leaf Tryz.f111) .nil) (.br (.leaf Tryz.f367) .nil)) (.br (.br (.leaf Tryz.f239) .nil) .nil)))) (.br (.br (.br (.br (.br (.leaf Tryz.f31) .nil) (.br (.leaf Tryz.f287) .nil)) (.br (.br (.leaf Tryz.f159) .nil) .nil)) (.br (.br (.br (.leaf Tryz.f95) .nil) (.br (.leaf Tryz.f351) .nil)) (.br (.br (.leaf Tryz.f223) .nil) .nil))) (.br (.br (.br (.br (.leaf Tryz.f63) .nil) (.br (.leaf Tryz.f319) .nil)) (.br (.br (.leaf Tryz.f191) .nil) .nil)) (.br (.br (.br (.leaf Tryz.f127) .nil) (.br (.leaf Tryz.f383) .nil)) (.br (.br (.leaf Tryz.f255) .nil) .nil))))))
noncomputable def fnsT : Tr Func := (.br (.br (.br fnsT000 fnsT001) (.br fnsT010 fnsT011)) (.br (.br fnsT100 fnsT101) (.br fnsT110 fnsT111)))
noncomputable def tysT000 : Tr TypeInfo := (.br (.br (.br (.br (.br (.br (.br (.leaf Tryz.t0) .nil) (.br (.leaf Tryz.t256) .nil)) (.br (.br (.leaf Tryz.t128) .nil) (.br (.leaf Tryz.t384) .nil))) (.br (.br (.br (.leaf Tryz.t64) .nil) (.br (.leaf Tryz.t320) .nil)) (.br (.br (.leaf Tryz.t192) .nil) .nil))) (.br (.br (.br (.br (.leaf Tryz.t32) .nil) (.br (.leaf Tryz.t288) .nil)) (.br (.br (.leaf Tryz.t160) .nil) .nil)) (.br (.br (.br (.leaf Tryz.t96) .nil) (.br (.leaf Tryz.t352) .nil)) (.br (.br (.leaf Tryz.t224) .nil) .nil)))) (.br (.br (.br (.br (.br (.leaf Tryz.t16) .nil) (.br (.leaf Tryz.t272) .nil)) (.br (.br (.leaf Tryz.t144) .nil) .nil)) (.br (.br (.br (.leaf Tryz.t80) .nil) (.br (.leaf Tryz.t336) .nil)) (.br (.br (.leaf Tryz.t208) .nil) .nil))) (.br (.br (.br (.br (.leaf Tryz.t48) .nil) (.br (.leaf Tryz.t304) .nil)) (.br (.br (.leaf Tryz.t176) .nil) .nil)) (.br (.br (.br (.leaf Tryz.t112) .nil) (.br (.leaf Tryz.t368) .nil)) (.br (.br (.leaf Tryz.t240) .nil) .nil))))) (.br (.br (.br (.br (.br (.br (.leaf Tryz.t8) .nil) (.br (.leaf Tryz.t264) .nil)) (.br (.br (.leaf Tryz.t136) .nil) (.br (.leaf Tryz.t392) .nil))) (.br (.br (.br (.leaf Tryz.t72) .nil) (.br (.leaf Tryz.t328) .nil)) (.br (.br (.leaf Tryz.t200) .nil) .nil))) (.br (.br (.br (.br (.leaf Tryz.t40) .nil) (.br (.leaf Tryz.t296) .nil)) (.br (.br (.leaf Tryz.t168) .nil) .nil)) (.br (.br (.br (.leaf Tryz.t104) .nil) (.br (.leaf Tryz.t360) .nil)) (.br (.br (.leaf Tryz.t232) .nil) .nil)))) (.br (.br (.br (.br (.br (.leaf Tryz.t24) .nil) (.br (.leaf Tryz.t280) .nil)) (.br (.br (.leaf Tryz.t152) .nil) .nil)) (.br (.br (.br (.leaf Tryz.t88) .nil) (.br (.leaf Tryz.t344) .nil)) (.br (.br (.leaf Tryz.t216) .nil) .nil))) (.br (.br (.br (.br (.leaf Tryz.t56) .nil) (.br (.leaf Tryz.t312) .nil)) (.br (.br (.leaf Tryz.t184) .nil) .nil)) (.br (.br (.br (.leaf Tryz.t120) .nil) (.br (.leaf Tryz.t376) .nil)) (.br (.br (.leaf Tryz.t248) .nil) .nil))))))
noncomputable def tysT001 : Tr TypeInfo := (.br (.br (.br (.br (.br (.br (.br (.leaf Tryz.t4) .nil) (.br (.leaf Tryz.t260) .nil)) (.br (.br (.leaf Tryz.t132) .nil) (.br (.leaf Tryz.t388) .nil))) (.br (.br (.br (.leaf Tryz.t68) .nil) (.br (.leaf Tryz.t324) .nil)) (.br (.br (.leaf Tryz.t196) .nil) .nil))) (.br (.br (.br (.br (.leaf Tryz.t36) .nil) (.br (.leaf Tryz.t292) .nil)) (.br (.br (.leaf Tryz.t164) .nil) .nil)) (.br (.br (.br (.leaf Tryz.t100) .nil) (.br (.leaf Tryz.t356) .nil)) (.br (.br (.leaf Tryz.t228) .nil) .nil)))) (.br (.br (.br (.br (.br (.leaf Tryz.t20) .nil) (.br (.leaf Tryz.t276) .nil)) (.br (.br (.leaf Tryz.t148) .nil) .nil)) (.br (.br (.br (.leaf Tryz.t84) .nil) (.br (.leaf Tryz.t340) .nil)) (.br (.br (.leaf Tryz.t212) .nil) .nil))) (.br (.br (.br (.br (.leaf Tryz.t52) .nil) (.br (.leaf Tryz.t308) .nil)) (.br (.br (.leaf Tryz.t180) .nil) .nil)) (.br (.br (.br (.leaf Tryz.t116) .nil) (.br (.leaf Tryz.t372) .nil)) (.br (.br (.leaf Tryz.t244) .nil) .nil))))) (.br (.br (.br (.br (.br (.br (.leaf Tryz.t12) .nil) (.br (.leaf Tryz.t268) .nil)) (.br (.br (.leaf Tryz.t140) .nil) (.br (.leaf Tryz.t396) .nil))) (.br (.br (.br (.leaf Tryz.t76) .nil) (.br (.leaf Tryz.t332) .nil)) (.br (.br (.leaf Tryz.t204) .nil) .nil))) (.br (.br (.br (.br (.leaf Tryz.t44) .nil) (.br (.leaf Tryz.t300) .nil)) (.br (.br (.leaf Tryz.t172) .nil) .nil)) (.br (.br (.br (.leaf Tryz.t108) .nil) (.br (.leaf Tryz.t364) .nil)) (.br (.br (.leaf Tryz.t236) .nil) .nil)))) (.br (.br (.br (.br (.br (.leaf Tryz.t28) .nil) (.br (.leaf Tryz.t284) .nil)) (.br (.br (.leaf Tryz.t156) .nil) .nil)) (.br (.br (.br (.leaf Tryz.t92) .nil) (.br (.leaf Tryz.t348) .nil)) (.br (.br (.leaf Tryz.t220) .nil) .nil))) (.br (.br (.br (.br (.leaf Tryz.t60) .nil) (.br (.leaf Tryz.t316) .nil)) (.br (.br (.leaf Tryz.t188) .nil) .nil)) (.br (.br (.br (.leaf Tryz.t124) .nil) (.br (.leaf Tryz.t380) .nil)) (.br (.br (.leaf Tryz.t252) .nil) .nil))))))
noncomputable def tysT010 : Tr TypeInfo := (.br (.br (.br (.br (.br (.br (.br (.leaf Tryz.t2) .nil) (.br (.leaf Tryz.t258) .nil)) (.br (.br (.leaf Tryz.t130) .nil) (.br (.leaf Tryz.t386) .nil))) (.br (.br (.br (.leaf Tryz.t66) .nil) (.br (.leaf Tryz.t322) .nil)) (.br (.br (.leaf Tryz.t194) .nil) .nil))) (.br (.br (.br (.br (.leaf Tryz.t34) .nil) (.br (.leaf Tryz.t290) .nil)) (.br (.br (.leaf Tryz.t162) .nil) .nil)) (.br (.br (.br (.leaf Tryz.t98) .nil) (.br (.leaf Tryz.t354) .nil)) (.br (.br (.leaf Tryz.t226) .nil) .nil)))) (.br (.br (.br (.br (.br (.leaf Tryz.t18) .nil) (.br (.leaf Tryz.t274) .nil)) (.br (.br (.leaf Tryz.t146) .nil) .nil)) (.br (.br (.br (.leaf Tryz.t82) .nil) (.br (.leaf Tryz.t338) .nil)) (.br (.br (.leaf Tryz.t210) .nil) .nil))) (.br (.br (.br (.br (.leaf Tryz.t50) .nil) (.br (.leaf Tryz.t306) .nil)) (.br (.br (.leaf Tryz.t178) .nil) .nil)) (.br (.br (.br (.leaf Tryz.t114) .nil) (.br (.leaf Tryz.t370) .nil)) (.br (.br (.leaf Tryz.t242) .nil) .nil))))) (.br (.br (.br (.br (.br (.br (.leaf Tryz.t10) .nil) (.br (.leaf Tryz.t266) .nil)) (.br (.br (.leaf Tryz.t138) .nil) (.br (.leaf Tryz.t394) .nil))) (.br (.br (.br (.leaf Tryz.t74) .nil) (.br (.leaf Tryz.t330) .nil)) (.br (.br (.leaf Tryz.t202) .nil) .nil))) (.br (.br (.br (.br (.leaf Tryz.t42) .nil) (.br (.leaf Tryz.t298) .nil)) (.br (.br (.leaf Tryz.t170) .nil) .nil)) (.br (.br (.br (.leaf Tryz.t106) .nil) (.br (.leaf Tryz.t362) .nil)) (.br (.br (.leaf Tryz.t234) .nil) .nil)))) (.br (.br (.br (.br (.br (.leaf Tryz.t26) .nil) (.br (.leaf Tryz.t282) .nil)) (.br (.br (.leaf Tryz.t154) .nil) .nil)) (.br (.br (.br (.leaf Tryz.t90) .nil) (.br (.leaf Tryz.t346) .nil)) (.br (.br (.leaf Tryz.t218) .nil) .nil))) (.br (.br (.br (.br (.leaf Tryz.t58) .nil) (.br (.leaf Tryz.t314) .nil)) (.br (.br (.leaf Tryz.t186) .nil) .nil)) (.br (.br (.br (.leaf Tryz.t122) .nil) (.br (.leaf Tryz.t378) .nil)) (.br (.br (.leaf Tryz.t250) .nil) .nil))))))
noncomputable def tysT011 : Tr TypeInfo := (.br (.br (.br (.br (.br (.br (.br (.leaf Tryz.t6) .nil) (.br (.leaf Tryz.t262) .nil)) (.br (.br (.leaf Tryz.t134) .nil) (.br (.leaf Tryz.t390) .nil))) (.br (.br (.br (.leaf Tryz.t70) .nil) (.br (.leaf Tryz.t326) .nil)) (.br (.br (.leaf Tryz.t198) .nil) .nil))) (.br (.br (.br (.br (.leaf Tryz.t38) .nil) (.br (.leaf Tryz.t294) .nil)) (.br (.br (.leaf Tryz.t166) .nil) .nil)) (.br (.br (.br (.leaf Tryz.t102) .nil) (.br (.leaf Tryz.t358) .nil)) (.br (.br (.leaf Tryz.t230) .nil) .nil)))) (.br (.br (.br (.br (.br (.leaf Tryz.t22) .nil) (.br (.leaf Tryz.t278) .nil)) (.br (.br (.leaf Tryz.t150) .nil) .nil)) (.br (.br (.br (.leaf Tryz.t86) .nil) (.br (.leaf Tryz.t342) .nil)) (.br (.br (.leaf Tryz.t214) .nil) .nil))) (.br (.br (.br (.br (.leaf Tryz.t54) .nil) (.br (.leaf Tryz.t310) .nil)) (.br (.br (.leaf Tryz.t182) .nil) .nil)) (.br (.br (.br (.leaf Tryz.t118) .nil) (.br (.leaf Tryz.t374) .nil)) (.br (.br (.leaf Tryz.t246) .nil) .nil))))) (.br (.br (.br (.br (.br (.br (.leaf Tryz.t14) .nil) (.br (.leaf Tryz.t270) .nil)) (.br (.br (.leaf Tryz.t142) .nil) .nil)) (.br (.br (.br (.leaf Tryz.t78) .nil) (.br (.leaf Tryz.t334) .nil)) (.br (.br (.leaf Tryz.t206) .nil) .nil))) (.br (.br (.br (.br (.leaf Tryz.t46) .nil) (.br (.leaf Tryz.t302) .nil)) (.br (.br (.leaf Tryz.t174) .nil) .nil)) (.br (.br (.br (.leaf Tryz.t110) .nil) (.br (.leaf Tryz.t366) .nil)) (.br (.br (.leaf Tryz.t238) .nil) .nil)))) (.br (.br (.br (.br (.br (.leaf Tryz.t30) .nil) (.br (.leaf Tryz.t286) .nil)) (.br (.br (.leaf Tryz.t158) .nil) .nil)) (.br (.br (.br (.leaf Tryz.t94) .nil) (.br (.leaf Tryz.t350) .nil)) (.br (.br (.leaf Tryz.t222) .nil) .nil))) (.br (.br (.br (.br (.leaf Tryz.t62) .nil) (.br (.leaf Tryz.t318) .nil)) (.br (.br (.leaf Tryz.t190) .nil) .nil)) (.br (.br (.br (.leaf Tryz.t126) .nil) (.br (.leaf Tryz.t382) .nil)) (.br (.br (.leaf Tryz.t254) .nil) .nil))))))
noncomputable def tysT100 : Tr TypeInfo := (.br (.br (.br (.br (.br (.br (.br (.leaf Tryz.t1) .nil) (.br (.leaf Tryz.t257) .nil)) (.br (.br (.leaf Tryz.t129) .nil) (.br (.leaf Tryz.t385) .nil))) (.br (.br (.br (.leaf Tryz.t65) .nil) (.br (.leaf Tryz.t321) .nil)) (.br (.br (.leaf Tryz.t193) .nil) .nil))) (.br (.br (.br (.br (.leaf Tryz.t33) .nil) (.br (.leaf Tryz.t289) .nil)) (.br (.br (.leaf Tryz.t161) .nil) .nil)) (.br (.br (.br (.leaf Tryz.t97) .nil) (.br (.leaf Tryz.t353) .nil)) (.br (.br (.leaf Tryz.t225) .nil) .nil)))) (.br (.br (.br (.br (.br (.leaf Tryz.t17) .nil) (.br (.leaf Tryz.t273) .nil)) (.br (.br (.leaf Tryz.t145) .nil) .nil)) (.br (.br (.br (.leaf Tryz.t81) .nil) (.br (.leaf Tryz.t337) .nil)) (.br (.br (.leaf Tryz.t209) .nil) .nil))) (.br (.br (.br (.br (.leaf Tryz.t49) .nil) (.br (.leaf Tryz.t305) .nil)) (.br (.br (.leaf Tryz.t177) .nil) .nil)) (.br (.br (.br (.leaf Tryz.t113) .nil) (.br (.leaf Tryz.t369) .nil)) (.br (.br (.leaf Tryz.t241) .nil) .nil))))) (.br (.br (.br (.br (.br (.br (.leaf Tryz.t9) .nil) (.br (.leaf Tryz.t265) .nil)) (.br (.br (.leaf Tryz.t137) .nil) (.br (.leaf Tryz.t393) .nil))) (.br (.br (.br (.leaf Tryz.t73) .nil) (.br (.leaf Tryz.t329) .nil)) (.br (.br (.leaf Tryz.t201) .nil) .nil))) (.br (.br (.br (.br (.leaf Tryz.t41) .nil) (.br (.leaf Tryz.t297) .nil)) (.br (.br (.leaf Tryz.t169) .nil) .nil)) (.br (.br (.br (.leaf Tryz.t105) .nil) (.br (.leaf Tryz.t361) .nil)) (.br (.br (.leaf Tryz.t233) .nil) .nil)))) (.br (.br (.br (.br (.br (.leaf Tryz.t25) .nil) (.br (.leaf Tryz.t281) .nil)) (.br (.br (.leaf Tryz.t153) .nil) .nil)) (.br (.br (.br (.leaf Tryz.t89) .nil) (.br (.leaf Tryz.t345) .nil)) (.br (.br (.leaf Tryz.t217) .nil) .nil))) (.br (.br (.br (.br (.leaf Tryz.t57) .nil) (.br (.leaf Tryz.t313) .nil)) (.br (.br (.leaf Tryz.t185) .nil) .nil)) (.br (.br (.br (.leaf Tryz.t121) .nil) (.br (.leaf Tryz.t377) .nil)) (.br (.br (.leaf Tryz.t249) .nil) .nil))))))
noncomputable def tysT101 : Tr TypeInfo := (.br (.br (.br (.br (.br (.br (.br (.leaf Tryz.t5) .nil) (.br (.leaf Tryz.t261) .nil)) (.br (.br (.leaf Tryz.t133) .nil) (.br (.leaf Tryz.t389) .nil))) (.br (.br (.br (.leaf Tryz.t69) .nil) (.br (.leaf Tryz.t325) .nil)) (.br (.br (.leaf Tryz.t197) .nil) .nil))) (.br (.br (.br (.br (.leaf Tryz.t37) .nil) (.br (.leaf Tryz.t293) .nil)) (.br (.br (.leaf Tryz.t165) .nil) .nil)) (.br (.br (.br (.leaf Tryz.t101) .nil) (.br (.leaf Tryz.t357) .nil)) (.br (.br (.leaf Tryz.t229) .nil) .nil)))) (.br (.br (.br (.br (.br (.leaf Tryz.t21) .nil) (.br (.leaf Tryz.t277) .nil)) (.br (.br (.leaf Tryz.t149) .nil) .nil)) (.br (.br (.br (.leaf Tryz.t85) .nil) (.br (.leaf Tryz.t341) .nil)) (.br (.br (.leaf Tryz.t213) .nil) .nil))) (.br (.br (.br (.br (.leaf Tryz.t53) .nil) (.br (.leaf Tryz.t309) .nil)) (.br (.br (.leaf Tryz.t181) .nil) .nil)) (.br (.br (.br (.leaf Tryz.t117) .nil) (.br (.leaf Tryz.t373) .nil)) (.br (.br (.leaf Tryz.t245) .nil) .nil))))) (.br (.br (.br (.br (.br (.br (.leaf Tryz.t13) .nil) (.br (.leaf Tryz.t269) .nil)) (.br (.br (.leaf Tryz.t141) .nil) .nil)) (.br (.br (.br (.leaf Tryz.t77) .nil) (.br (.leaf Tryz.t333) .nil)) (.br (.br (.leaf Tryz.t205) .nil) .nil))) (.br (.br (.br (.br (.leaf Tryz.t45) .nil) (.br (.leaf Tryz.t301) .nil)) (.br (.br (.leaf Tryz.t173) .nil) .nil)) (.br (.br (.br (.leaf Tryz.t109) .nil) (.br (.leaf Tryz.t365) .nil)) (.br (.br (.leaf Tryz.t237) .nil) .nil)))) (.br (.br (.br (.br (.br (.leaf Tryz.t29) .nil) (.br (.leaf Tryz.t285) .nil)) (.br (.br (.leaf Tryz.t157) .nil) .nil)) (.br (.br (.br (.leaf Tryz.t93) .nil) (.br (.leaf Tryz.t349) .nil)) (.br (.br (.leaf Tryz.t221) .nil) .nil))) (.br (.br (.br (.br (.leaf Tryz.t61) .nil) (.br (.leaf Tryz.t317) .nil)) (.br (.br (.leaf Tryz.t189) .nil) .nil)) (.br (.br (.br (.leaf Tryz.t125) .nil) (.br (.leaf Tryz.t381) .nil)) (.br (.br (.leaf Tryz.t253) .nil) .nil))))))
noncomputable def tysT110 : Tr TypeInfo := (.br (.br (.br (.br (.br (.br (.br (.leaf Tryz.t3) .nil) (.br (.leaf Tryz.t259) .nil)) (.br (.br (.leaf Tryz.t131) .nil) (.br (.leaf Tryz.t387) .nil))) (.br (.br (.br (.leaf Tryz.t67) .nil) (.br (.leaf Tryz.t323) .nil)) (.br (.br (.leaf Tryz.t195) .nil) .nil))) (.br (.br (.br (.br (.leaf Tryz.t35) .nil) (.br (.leaf Tryz.t291) .nil)) (.br (.br (.leaf Tryz.t163) .nil) .nil)) (.br (.br (.br (.leaf Tryz.t99) .nil) (.br (.leaf Tryz.t355) .nil)) (.br (.br (.leaf Tryz.t227) .nil) .nil)))) (.br (.br (.br (.br (.br (.leaf Tryz.t19) .nil) (.br (.leaf Tryz.t275) .nil)) (.br (.br (.leaf Tryz.t147) .nil) .nil)) (.br (.br (.br (.leaf Tryz.t83) .nil) (.br (.leaf Tryz.t339) .nil)) (.br (.br (.leaf Tryz.t211) .nil) .nil))) (.br (.br (.br (.br (.leaf Tryz.t51) .nil) (.br (.leaf Tryz.t307) .nil)) (.br (.br (.leaf Tryz.t179) .nil) .nil)) (.br (.br (.br (.leaf Tryz.t115) .nil) (.br (.leaf Tryz.t371) .nil)) (.br (.br (.leaf Tryz.t243) .nil) .nil))))) (.br (.br (.br (.br (.br (.br (.leaf Tryz.t11) .nil) (.br (.leaf Tryz.t267) .nil)) (.br (.br (.leaf Tryz.t139) .nil) (.br (.leaf Tryz.t395) .nil))) (.br (.br (.br (.leaf Tryz.t75) .nil) (.br (.leaf Tryz.t331) .nil)) (.br (.br (.leaf Tryz.t203) .nil) .nil))) (.br (.br (.br (.br (.leaf Tryz.t43) .nil) (.br (.leaf Tryz.t299) .nil)) (.br (.br (.leaf Tryz.t171) .nil) .nil)) (.br (.br (.br (.leaf Tryz.t107) .nil) (.br (.leaf Tryz.t363) .nil)) (.br (.br (.leaf Tryz.t235) .nil) .nil)))) (.br (.br (.br (.br (.br (.leaf Tryz.t27) .nil) (.br (.leaf Tryz.t283) .nil)) (.br (.br (.leaf Tryz.t155) .nil) .nil)) (.br (.br (.br (.leaf Tryz.t91) .nil) (.br (.leaf Tryz.t347) .nil)) (.br (.br (.leaf Tryz.t219) .nil) .nil))) (.br (.br (.br (.br (.leaf Tryz.t59) .nil) (.br (.leaf Tryz.t315) .nil)) (.br (.br (.leaf Tryz.t187) .nil) .nil)) (.br (.br (.br (.leaf Tryz.t123) .nil) (.br (.leaf Tryz.t379) .nil)) (.br (.br (.leaf Tryz.t251) .nil) .nil))))))
noncomputable def tysT111 : Tr TypeInfo := (.br (.br (.br (.br (.br (.br (.br (.leaf Tryz.t7) .nil) (.br (.leaf Tryz.t263) .nil)) (.br (.br (.leaf Tryz.t135) .nil) (.br (.leaf Tryz.t391) .nil))) (.br (.br (.br (.leaf Tryz.t71) .nil) (.br (.leaf Tryz.t327) .nil)) (.br (.br (.leaf Tryz.t199) .nil) .nil))) (.br (.br (.br (.br (.leaf Tryz.t39) .nil) (.br (.leaf Tryz.t295) .nil)) (.br (.br (.leaf Tryz.t167) .nil) .nil)) (.br (.br (.br (.leaf Tryz.t103) .nil) (.br (.leaf Tryz.t359) .nil)) (.br (.br (.leaf Tryz.t231) .nil) .nil)))) (.br (.br (.br (.br (.br (.leaf Tryz.t23) .nil) (.br (.leaf Tryz.t279) .nil)) (.br (.br (.leaf Tryz.t151) .nil) .nil)) (.br (.br (.br (.leaf Tryz.t87) .nil) (.br (.leaf Tryz.t343) .nil)) (.br (.br (.leaf Tryz.t215) .nil) .nil))) (.br (.br (.br (.br (.leaf Tryz.t55) .nil) (.br (.leaf Tryz.t311) .nil)) (.br (.br (.leaf Tryz.t183) .nil) .nil)) (.br (.br (.br (.leaf Tryz.t119) .nil) (.br (.leaf Tryz.t375) .nil)) (.br (.br (.leaf Tryz.t247) .nil) .nil))))) (.br (.br (.br (.br (.br (.br (.leaf Tryz.t15) .nil) (.br (.leaf Tryz.t271) .nil)) (.br (.br (.leaf Tryz.t143) .nil) .nil)) (.br (.br (.br (.leaf Tryz.t79) .nil) (.br (.leaf Tryz.t335) .nil)) (.br (.br (.leaf Tryz.t207) .nil) .nil))) (.br (.br (.br (.br (.leaf Tryz.t47) .nil) (.br (.leaf Tryz.t303) .nil)) (.br (.br (.leaf Tryz.t175) .nil) .nil)) (.br (.br (.br (.leaf Tryz.t111) .nil) (.br (.leaf Tryz.t367) .nil)) (.br (.br (.leaf Tryz.t239) .nil) .nil)))) (.br (.br (.br (.br (.br (.leaf Tryz.t31) .nil) (.br (.leaf Tryz.t287) .nil)) (.br (.br (.leaf Tryz.t159) .nil) .nil)) (.br (.br (.br (.leaf Tryz.t95) .nil) (.br (.leaf Tryz.t351) .nil)) (.br (.br (.leaf Tryz.t223) .nil) .nil))) (.br (.br (.br (.br (.leaf Tryz.t63) .nil) (.br (.leaf Tryz.t319) .nil)) (.br (.br (.leaf Tryz.t191) .nil) .nil)) (.br (.br (.br (.leaf Tryz.t127) .nil) (.br (.leaf Tryz.t383) .nil)) (.br (.br (.leaf Tryz.t255) .nil) .nil))))))
noncomputable def tysT : Tr TypeInfo := (.br (.br (.br tysT000 tysT001) (.br tysT010 tysT011)) (.br (.br tysT100 tysT101) (.br tysT110 tysT111)))
theorem fnsT_eq : fnsT = Tr.ofList 10 Tryz.prog.funcs.toList 0 .nil := by kernel_rfl
theorem tysT_eq : tysT = Tr.ofList 10 Tryz.prog.types.toList 0 .nil := by kernel_rfl
end Go.Eng
end
section
namespace Go.Eng
open Go.Proofs
noncomputable section
def isPre (a : List UInt8) : List UInt8 → Bool :=
  lrec (fun _ => true) (fun x _ ih b => lcase false (fun y ys => cnd (Nat.beq x.toNat y.toNat) (ih ys) false) b) a
def hasL (t : List UInt8) (l : List UInt8) : Bool := lrec (isPre t []) (fun x xs ih => cnd (isPre t (x :: xs)) true ih) l
def idxB (c : Nat) (l : List UInt8) : Nat → Int := lrec (fun _ => Int.negSucc 0) (fun a _ ih n => cnd (Nat.beq a.toNat c) (Int.ofNat n) (ih (Nat.succ n))) l
def orcC (args : List Value) : Option Value := match args with
  | [.string a, .string b] => cnd (Nat.blt (len a.data.toList) 1000000) (some (.bool (hasL b.data.toList a.data.toList))) none
  | _ => none
def orcI (args : List Value) : Option Value := match args with
  | [.string a, .int .u8 c] => some (.int .i64 (idxB c.toNat.toUInt8.toNat a.data.toList 0))
  | _ => none
def orc0 (f : FuncId) (args : List Value) : Option Value := cnd (Nat.beq f 266) (orcC args) (cnd (Nat.beq f 318) (orcI args) (cnd (Nat.beq f 324) (one args) none))
def good0 (B : Base) : Prop := ∃ o, B 2 = some o ∧ ∃ m : Int, ∀ w : World, w.heap[2]? = some o → w.cell? ⟨2, 0, none⟩ = some (.int .i64 m)
def EE (orc : FuncId → List Value → Option Value) : Env := { P := Tryz.prog, fns := fnsT, tys := tysT, gl := 0, orc := orc, cmp := fun t => Nat.beq t 127, good := good0, steps := 100000 }
def E0 : Env := EE orc0
theorem trOf_ok {α : Type} {d : Nat} : ∀ (l : List α) (i : Nat) (t : Tr α), t.wf d → i + l.length ≤ 2 ^ d → (Tr.ofList d l i t).wf d ∧ ∀ k, k < 2 ^ d → Tr.get (Tr.ofList d l i t) k = if i ≤ k ∧ k < i + l.length then l[k - i]? else Tr.get t k := by
  intro l
  induction l with
  | nil =>
    intro i t ht _
    refine ⟨ht, fun k hk => ?_⟩
    rw [if_neg (by simp)]; rfl
  | cons x l ih =>
    intro i t ht hl
    simp only [List.length_cons] at hl
    have h0 : Tr.ofList d (x :: l) i t = Tr.ofList d l (i + 1) (Tr.put (.leaf x) t d i) := rfl
    have hx : (Tr.leaf x : Tr α).wf 0 := trivial
    obtain ⟨h1, h2⟩ := ih (i + 1) (Tr.put (.leaf x) t d i) (Tr.put_wf hx d t i ht) (by omega)
    rw [h0]
    refine ⟨h1, fun k hk => ?_⟩
    rw [h2 k hk]
    simp only [List.length_cons]
    by_cases hki : k = i
    · subst hki
      rw [if_neg (by omega), if_pos (by omega), Tr.get_put hx d t k k ht hk hk, if_pos rfl]
      simp [Tr.get_leaf]
    · by_cases hlt : i + 1 ≤ k ∧ k < i + 1 + l.length
      · rw [if_pos hlt, if_pos (by omega), show k - i = (k - (i + 1)) + 1 by omega, List.getElem?_cons_succ]
      · rw [if_neg hlt, if_neg (by omega), Tr.get_put hx d t i k ht (by omega) hk, if_neg hki]
theorem wf_nil {α : Type} : ∀ d, (Tr.nil : Tr α).wf d
  | 0 => trivial
  | _ + 1 => trivial
theorem tr_get {α : Type} {l : List α} (hl : l.length ≤ 1024) {k : Nat} (hk : Nat.blt k 1024 = true) {a : α} (h : Tr.get (Tr.ofList 10 l 0 .nil) k = some a) : l[k]? = some a := by
  have := (trOf_ok (d := 10) l 0 .nil (wf_nil 10) (by simpa using hl)).2 k (by simpa using blt_true hk)
  rw [this] at h
  split at h
  · simpa using h
  · rw [Tr.get_nil] at h; cases h
theorem nfuncs : Tryz.prog.funcs.toList.length = 392 := by kernel_rfl
theorem ntypes : Tryz.prog.types.toList.length = 397 := by kernel_rfl
theorem info_ok (orc : FuncId → List Value → Option Value) {t : TypeId} {i : TypeInfo} (h : (EE orc).info t = some i) : Tryz.prog.types.toList[t]? = some i := by
  unfold Env.info at h
  obtain ⟨h1, h2⟩ := cnd_some.1 h
  have h2 : Tr.get tysT t = some i := h2
  rw [tysT_eq] at h2
  exact tr_get (by rw [ntypes]; decide) h1 h2
theorem fn_ok (orc : FuncId → List Value → Option Value) {f : FuncId} {F : Func} (h : (EE orc).fn f = some F) : Tryz.prog.funcs.toList[f]? = some F := by
  unfold Env.fn at h
  obtain ⟨h1, h2⟩ := cnd_some.1 h
  have h2 : Tr.get fnsT f = some F := h2
  rw [fnsT_eq] at h2
  exact tr_get (by rw [nfuncs]; decide) h1 h2
def chkF (E : Env) (t : TypeId) : Bool := match E.und t with
  | some d => (match fields d with
    | some fs => allL (fun f => isSome1 (ob (E.size f.type) fun _ => some undef)) fs
    | none => true)
  | none => true
def chkB (E : Env) (t : TypeId) : Bool := match E.info t with
  | some i => Nat.ble i.bytes 65536
  | none => true
def chkZ (E : Env) (t : TypeId) : Bool := match E.zero t with
  | some l => (match E.size t with
    | some n => Nat.beq (len l) n
    | none => true)
  | none => true
def upTo (p : Nat → Bool) (n : Nat) : Bool := nrec true (fun m ih => cnd (p m) ih false) n
theorem upTo_ok {p : Nat → Bool} : ∀ (n : Nat), upTo p n = true → ∀ k, k < n → p k = true := by
  intro n
  induction n with
  | zero => intro _ k hk; omega
  | succ n ih =>
    intro h k hk
    have h' : cnd (p n) (upTo p n) false = true := h
    cases hp : p n with
    | false => rw [hp] at h'; cases h'
    | true =>
      rw [hp] at h'
      by_cases e : k = n
      · subst e; exact hp
      · exact ih h' k (by omega)
theorem chkF_all (orc : FuncId → List Value → Option Value) : upTo (chkF (EE orc)) 397 = true := by kernel_rfl
theorem chkB_all (orc : FuncId → List Value → Option Value) : upTo (chkB (EE orc)) 397 = true := by kernel_rfl
theorem chkZ_all (orc : FuncId → List Value → Option Value) : upTo (chkZ (EE orc)) 397 = true := by kernel_rfl
theorem info_lt (orc : FuncId → List Value → Option Value) {t : TypeId} {i : TypeInfo} (h : (EE orc).info t = some i) : t < 397 := by
  have := (List.getElem?_eq_some_iff.1 (info_ok orc h)).1
  rw [ntypes] at this; exact this
theorem eok (orc : FuncId → List Value → Option Value) : EOK (EE orc) where
  tys := fun t i h => by
    have := info_ok orc h
    have h2 : Tryz.prog.types[t]? = some i := by rw [← Array.getElem?_toList]; exact this
    have h3 : t < Tryz.prog.types.size := (Array.getElem?_eq_some_iff.1 h2).1
    show Tables.info? Tryz.prog.toTables t = some i
    unfold Tables.info?
    rw [if_pos h3]; exact h2
  fns := fun f F h => by
    have := fn_ok orc h
    have h2 : Tryz.prog.funcs[f]? = some F := by rw [← Array.getElem?_toList]; exact this
    exact h2
  held := fun t h => by
    have : t = 127 := Nat.eq_of_beq_eq_true h
    subst this
    show Tryz.prog.stoodInHeld 127 = false
    kernel_rfl
  blank := fun t fs h hu f hf => by
    have : t = 127 := Nat.eq_of_beq_eq_true h
    subst this
    have hall : (match (EE orc).und 127 with
      | some (.struct fs) => allL (fun f => !(f.name == "_")) fs.toList
      | _ => true) = true := by kernel_rfl
    rw [hu] at hall
    simp only at hall
    rw [allL_eq, List.all_eq_true] at hall
    have := hall f hf
    intro e
    rw [e] at this
    simp at this
  flds := fun t fs hu f hf => by
    have hi : ∃ i, (EE orc).info t = some i := by
      unfold Env.und at hu
      obtain ⟨i, h1, _⟩ := ob_eq.1 hu
      exact ⟨i, h1⟩
    obtain ⟨i, hi⟩ := hi
    have := upTo_ok 397 (chkF_all orc) t (info_lt orc hi)
    unfold chkF at this
    rw [hu] at this
    simp only [fields] at this
    rw [allL_eq, List.all_eq_true] at this
    have := this f hf
    cases hs : (EE orc).size f.type with
    | some n => exact ⟨n, rfl⟩
    | none => rw [hs] at this; cases this
  bytes := fun t i h => by
    have := upTo_ok 397 (chkB_all orc) t (info_lt orc h)
    unfold chkB at this
    rw [h] at this
    exact Nat.le_of_ble_eq_true this
  zlen := fun t l n hz hs => by
    obtain ⟨i, hi, _⟩ := size_info hs
    have := upTo_ok 397 (chkZ_all orc) t (info_lt orc hi)
    unfold chkZ at this
    rw [hz, hs] at this
    simp only at this
    rw [len_eq] at this
    exact Nat.eq_of_beq_eq_true this
theorem mixedOK : Tryz.prog.follows .mixedOrders = true := by kernel_rfl
theorem namesOK : Tryz.prog.funcs.toList.all (fun F => !(F.name == "runtime.NumGoroutine")) = true := by kernel_rfl
theorem names0 (orc : FuncId → List Value → Option Value) : ∀ f F, (EE orc).fn f = some F → (F.name == "runtime.NumGoroutine") = false := fun f F h => by
  have h1 := fn_ok orc h
  have h2 := List.all_eq_true.1 namesOK F (List.mem_of_getElem? h1)
  simpa using h2
theorem isPre_ok : ∀ (a b : List UInt8), isPre a b = a.isPrefixOf b := by
  intro a
  induction a with
  | nil => intro b; rfl
  | cons x a ih =>
    intro b
    cases b with
    | nil => rfl
    | cons y b =>
      show cnd (Nat.beq x.toNat y.toNat) (isPre a b) false = _
      rw [ih, cnd_eq, List.isPrefixOf_cons_cons]
      have : Nat.beq x.toNat y.toNat = (x == y) := by
        rw [Bool.eq_iff_iff]; simp [Nat.beq_eq, UInt8.toNat_inj]
      rw [this]
      cases x == y <;> simp
theorem hasL_ok (t : List UInt8) : ∀ (l : List UInt8), hasL t l = Lib.contains l t := by
  intro l
  induction l with
  | nil =>
    show isPre t [] = _
    rw [isPre_ok]
    unfold Lib.contains Lib.index
    cases t <;> simp
  | cons x l ih =>
    show cnd (isPre t (x :: l)) true (hasL t l) = _
    rw [isPre_ok, ih]
    unfold Lib.contains
    rw [cnd_eq]
    conv => rhs; unfold Lib.index
    have := Lib.index_ge l t
    by_cases h : t.isPrefixOf (x :: l) = true
    · simp [h]
    · simp only [h, Bool.false_eq_true, if_false]
      by_cases h2 : Lib.index l t = -1
      · simp [h2]
      · have h3 : (Lib.index l t == -1) = false := by simpa using h2
        rw [h3]
        simp only [Bool.false_eq_true, if_false]
        congr 1
        rw [eq_iff_iff]
        omega
theorem idxB_ok (c : UInt8) : ∀ (l : List UInt8) (n : Nat), idxB c.toNat l n = if Lib.indexByte l c = -1 then -1 else Lib.indexByte l c + n := by
  intro l
  induction l with
  | nil => intro n; rfl
  | cons x l ih =>
    intro n
    show cnd (Nat.beq x.toNat c.toNat) (Int.ofNat n) (idxB c.toNat l (n + 1)) = _
    rw [ih, cnd_eq]
    have : Nat.beq x.toNat c.toNat = (x == c) := by
      rw [Bool.eq_iff_iff]; simp [Nat.beq_eq, UInt8.toNat_inj]
    rw [this]
    conv => rhs; unfold Lib.indexByte
    have hge := Lib.indexByte_ge l c
    by_cases h : (x == c) = true
    · simp [h]
    · simp only [h, Bool.false_eq_true, if_false]
      by_cases h2 : Lib.indexByte l c = -1
      · simp [h2]
      · have h3 : (Lib.indexByte l c == -1) = false := by simpa using h2
        rw [h3, if_neg h2]
        simp only [Bool.false_eq_true, if_false]
        rw [if_neg (by omega)]
        omega
theorem one_some {l : List Value} {v : Value} (h : one l = some v) : l = [v] := one_eq h
end
end Go.Eng
end
