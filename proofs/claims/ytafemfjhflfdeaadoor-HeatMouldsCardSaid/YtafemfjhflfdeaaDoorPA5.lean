/- Texts joined by pack.py: lemmas for YtafemfjhflfdeaaDoorMoulds. No condition. -/
import Derived.Test.YtafemfjhflfdeaaDoorPA4
import Derived.KernelRfl
import Derived.Test.YtafemfjhflfdeaaDoorProg
import Derived.LoopNIn
import Derived.RangeFuncIn
import Derived.ProofKit
import Derived.Laws.Externs
set_option linter.unusedSimpArgs false
set_option linter.unusedVariables false
set_option linter.defProp false
section
namespace Go.Proofs.YtafemfjhflfdeaaDoor.Pt
open Go Go.Proofs Go.Run
set_option maxRecDepth 100000
noncomputable def ff2 : FI := ⟨match Tryd.f2.body with | some c => c | none => .skip, Tryd.f2.ntmps, Tryd.f2.results.toList⟩
noncomputable def ff3 : FI := ⟨match Tryd.f3.body with | some c => c | none => .skip, Tryd.f3.ntmps, Tryd.f3.results.toList⟩
noncomputable def ff4 : FI := ⟨match Tryd.f4.body with | some c => c | none => .skip, Tryd.f4.ntmps, Tryd.f4.results.toList⟩
noncomputable def ff5 : FI := ⟨match Tryd.f5.body with | some c => c | none => .skip, Tryd.f5.ntmps, Tryd.f5.results.toList⟩
noncomputable def ff6 : FI := ⟨match Tryd.f6.body with | some c => c | none => .skip, Tryd.f6.ntmps, Tryd.f6.results.toList⟩
noncomputable def ff7 : FI := ⟨match Tryd.f7.body with | some c => c | none => .skip, Tryd.f7.ntmps, Tryd.f7.results.toList⟩
noncomputable def ff8 : FI := ⟨match Tryd.f8.body with | some c => c | none => .skip, Tryd.f8.ntmps, Tryd.f8.results.toList⟩
noncomputable def ff9 : FI := ⟨match Tryd.f9.body with | some c => c | none => .skip, Tryd.f9.ntmps, Tryd.f9.results.toList⟩
noncomputable def ff10 : FI := ⟨match Tryd.f10.body with | some c => c | none => .skip, Tryd.f10.ntmps, Tryd.f10.results.toList⟩
noncomputable def ff11 : FI := ⟨match Tryd.f11.body with | some c => c | none => .skip, Tryd.f11.ntmps, Tryd.f11.results.toList⟩
noncomputable def ff12 : FI := ⟨match Tryd.f12.body with | some c => c | none => .skip, Tryd.f12.ntmps, Tryd.f12.results.toList⟩
noncomputable def ff13 : FI := ⟨match Tryd.f13.body with | some c => c | none => .skip, Tryd.f13.ntmps, Tryd.f13.results.toList⟩
noncomputable def ff14 : FI := ⟨match Tryd.f14.body with | some c => c | none => .skip, Tryd.f14.ntmps, Tryd.f14.results.toList⟩
noncomputable def ff15 : FI := ⟨match Tryd.f15.body with | some c => c | none => .skip, Tryd.f15.ntmps, Tryd.f15.results.toList⟩
noncomputable def ff16 : FI := ⟨match Tryd.f16.body with | some c => c | none => .skip, Tryd.f16.ntmps, Tryd.f16.results.toList⟩
noncomputable def ff17 : FI := ⟨match Tryd.f17.body with | some c => c | none => .skip, Tryd.f17.ntmps, Tryd.f17.results.toList⟩
noncomputable def ff18 : FI := ⟨match Tryd.f18.body with | some c => c | none => .skip, Tryd.f18.ntmps, Tryd.f18.results.toList⟩
noncomputable def ff19 : FI := ⟨match Tryd.f19.body with | some c => c | none => .skip, Tryd.f19.ntmps, Tryd.f19.results.toList⟩
noncomputable def ff20 : FI := ⟨match Tryd.f20.body with | some c => c | none => .skip, Tryd.f20.ntmps, Tryd.f20.results.toList⟩
noncomputable def ff21 : FI := ⟨match Tryd.f21.body with | some c => c | none => .skip, Tryd.f21.ntmps, Tryd.f21.results.toList⟩
noncomputable def ff22 : FI := ⟨match Tryd.f22.body with | some c => c | none => .skip, Tryd.f22.ntmps, Tryd.f22.results.toList⟩
noncomputable def ff23 : FI := ⟨match Tryd.f23.body with | some c => c | none => .skip, Tryd.f23.ntmps, Tryd.f23.results.toList⟩
noncomputable def ff24 : FI := ⟨match Tryd.f24.body with | some c => c | none => .skip, Tryd.f24.ntmps, Tryd.f24.results.toList⟩
noncomputable def ff25 : FI := ⟨match Tryd.f25.body with | some c => c | none => .skip, Tryd.f25.ntmps, Tryd.f25.results.toList⟩
noncomputable def ff26 : FI := ⟨match Tryd.f26.body with | some c => c | none => .skip, Tryd.f26.ntmps, Tryd.f26.results.toList⟩
noncomputable def ff27 : FI := ⟨match Tryd.f27.body with | some c => c | none => .skip, Tryd.f27.ntmps, Tryd.f27.results.toList⟩
noncomputable def ff28 : FI := ⟨match Tryd.f28.body with | some c => c | none => .skip, Tryd.f28.ntmps, Tryd.f28.results.toList⟩
noncomputable def ff29 : FI := ⟨match Tryd.f29.body with | some c => c | none => .skip, Tryd.f29.ntmps, Tryd.f29.results.toList⟩
noncomputable def ff30 : FI := ⟨match Tryd.f30.body with | some c => c | none => .skip, Tryd.f30.ntmps, Tryd.f30.results.toList⟩
noncomputable def ff31 : FI := ⟨match Tryd.f31.body with | some c => c | none => .skip, Tryd.f31.ntmps, Tryd.f31.results.toList⟩
noncomputable def ff32 : FI := ⟨match Tryd.f32.body with | some c => c | none => .skip, Tryd.f32.ntmps, Tryd.f32.results.toList⟩
noncomputable def ff33 : FI := ⟨match Tryd.f33.body with | some c => c | none => .skip, Tryd.f33.ntmps, Tryd.f33.results.toList⟩
noncomputable def ff34 : FI := ⟨match Tryd.f34.body with | some c => c | none => .skip, Tryd.f34.ntmps, Tryd.f34.results.toList⟩
noncomputable def ff35 : FI := ⟨match Tryd.f35.body with | some c => c | none => .skip, Tryd.f35.ntmps, Tryd.f35.results.toList⟩
noncomputable def ff36 : FI := ⟨match Tryd.f36.body with | some c => c | none => .skip, Tryd.f36.ntmps, Tryd.f36.results.toList⟩
noncomputable def ff37 : FI := ⟨match Tryd.f37.body with | some c => c | none => .skip, Tryd.f37.ntmps, Tryd.f37.results.toList⟩
noncomputable def ff38 : FI := ⟨match Tryd.f38.body with | some c => c | none => .skip, Tryd.f38.ntmps, Tryd.f38.results.toList⟩
noncomputable def ff39 : FI := ⟨match Tryd.f39.body with | some c => c | none => .skip, Tryd.f39.ntmps, Tryd.f39.results.toList⟩
noncomputable def ff40 : FI := ⟨match Tryd.f40.body with | some c => c | none => .skip, Tryd.f40.ntmps, Tryd.f40.results.toList⟩
noncomputable def ff41 : FI := ⟨match Tryd.f41.body with | some c => c | none => .skip, Tryd.f41.ntmps, Tryd.f41.results.toList⟩
noncomputable def ff42 : FI := ⟨match Tryd.f42.body with | some c => c | none => .skip, Tryd.f42.ntmps, Tryd.f42.results.toList⟩
noncomputable def ff43 : FI := ⟨match Tryd.f43.body with | some c => c | none => .skip, Tryd.f43.ntmps, Tryd.f43.results.toList⟩
noncomputable def ff44 : FI := ⟨match Tryd.f44.body with | some c => c | none => .skip, Tryd.f44.ntmps, Tryd.f44.results.toList⟩
noncomputable def ff45 : FI := ⟨match Tryd.f45.body with | some c => c | none => .skip, Tryd.f45.ntmps, Tryd.f45.results.toList⟩
noncomputable def ff46 : FI := ⟨match Tryd.f46.body with | some c => c | none => .skip, Tryd.f46.ntmps, Tryd.f46.results.toList⟩
noncomputable def ff47 : FI := ⟨match Tryd.f47.body with | some c => c | none => .skip, Tryd.f47.ntmps, Tryd.f47.results.toList⟩
noncomputable def ff48 : FI := ⟨match Tryd.f48.body with | some c => c | none => .skip, Tryd.f48.ntmps, Tryd.f48.results.toList⟩
noncomputable def ff49 : FI := ⟨match Tryd.f49.body with | some c => c | none => .skip, Tryd.f49.ntmps, Tryd.f49.results.toList⟩
noncomputable def ff50 : FI := ⟨match Tryd.f50.body with | some c => c | none => .skip, Tryd.f50.ntmps, Tryd.f50.results.toList⟩
noncomputable def ff51 : FI := ⟨match Tryd.f51.body with | some c => c | none => .skip, Tryd.f51.ntmps, Tryd.f51.results.toList⟩
noncomputable def ff52 : FI := ⟨match Tryd.f52.body with | some c => c | none => .skip, Tryd.f52.ntmps, Tryd.f52.results.toList⟩
noncomputable def ff53 : FI := ⟨match Tryd.f53.body with | some c => c | none => .skip, Tryd.f53.ntmps, Tryd.f53.results.toList⟩
noncomputable def ff54 : FI := ⟨match Tryd.f54.body with | some c => c | none => .skip, Tryd.f54.ntmps, Tryd.f54.results.toList⟩
noncomputable def ff55 : FI := ⟨match Tryd.f55.body with | some c => c | none => .skip, Tryd.f55.ntmps, Tryd.f55.results.toList⟩
noncomputable def ff56 : FI := ⟨match Tryd.f56.body with | some c => c | none => .skip, Tryd.f56.ntmps, Tryd.f56.results.toList⟩
noncomputable def ff57 : FI := ⟨match Tryd.f57.body with | some c => c | none => .skip, Tryd.f57.ntmps, Tryd.f57.results.toList⟩
noncomputable def ff58 : FI := ⟨match Tryd.f58.body with | some c => c | none => .skip, Tryd.f58.ntmps, Tryd.f58.results.toList⟩
noncomputable def ff59 : FI := ⟨match Tryd.f59.body with | some c => c | none => .skip, Tryd.f59.ntmps, Tryd.f59.results.toList⟩
noncomputable def ff60 : FI := ⟨match Tryd.f60.body with | some c => c | none => .skip, Tryd.f60.ntmps, Tryd.f60.results.toList⟩
noncomputable def ff61 : FI := ⟨match Tryd.f61.body with | some c => c | none => .skip, Tryd.f61.ntmps, Tryd.f61.results.toList⟩
noncomputable def ff62 : FI := ⟨match Tryd.f62.body with | some c => c | none => .skip, Tryd.f62.ntmps, Tryd.f62.results.toList⟩
noncomputable def ff63 : FI := ⟨match Tryd.f63.body with | some c => c | none => .skip, Tryd.f63.ntmps, Tryd.f63.results.toList⟩
noncomputable def ff64 : FI := ⟨match Tryd.f64.body with | some c => c | none => .skip, Tryd.f64.ntmps, Tryd.f64.results.toList⟩
noncomputable def ff65 : FI := ⟨match Tryd.f65.body with | some c => c | none => .skip, Tryd.f65.ntmps, Tryd.f65.results.toList⟩
noncomputable def ff66 : FI := ⟨match Tryd.f66.body with | some c => c | none => .skip, Tryd.f66.ntmps, Tryd.f66.results.toList⟩
noncomputable def ff67 : FI := ⟨match Tryd.f67.body with | some c => c | none => .skip, Tryd.f67.ntmps, Tryd.f67.results.toList⟩
noncomputable def ff68 : FI := ⟨match Tryd.f68.body with | some c => c | none => .skip, Tryd.f68.ntmps, Tryd.f68.results.toList⟩
noncomputable def ff69 : FI := ⟨match Tryd.f69.body with | some c => c | none => .skip, Tryd.f69.ntmps, Tryd.f69.results.toList⟩
noncomputable def ff70 : FI := ⟨match Tryd.f70.body with | some c => c | none => .skip, Tryd.f70.ntmps, Tryd.f70.results.toList⟩
noncomputable def ff71 : FI := ⟨match Tryd.f71.body with | some c => c | none => .skip, Tryd.f71.ntmps, Tryd.f71.results.toList⟩
noncomputable def ff72 : FI := ⟨match Tryd.f72.body with | some c => c | none => .skip, Tryd.f72.ntmps, Tryd.f72.results.toList⟩
noncomputable def ff73 : FI := ⟨match Tryd.f73.body with | some c => c | none => .skip, Tryd.f73.ntmps, Tryd.f73.results.toList⟩
noncomputable def ff74 : FI := ⟨match Tryd.f74.body with | some c => c | none => .skip, Tryd.f74.ntmps, Tryd.f74.results.toList⟩
noncomputable def ff75 : FI := ⟨match Tryd.f75.body with | some c => c | none => .skip, Tryd.f75.ntmps, Tryd.f75.results.toList⟩
noncomputable def ff76 : FI := ⟨match Tryd.f76.body with | some c => c | none => .skip, Tryd.f76.ntmps, Tryd.f76.results.toList⟩
noncomputable def ff77 : FI := ⟨match Tryd.f77.body with | some c => c | none => .skip, Tryd.f77.ntmps, Tryd.f77.results.toList⟩
noncomputable def ff78 : FI := ⟨match Tryd.f78.body with | some c => c | none => .skip, Tryd.f78.ntmps, Tryd.f78.results.toList⟩
noncomputable def ff79 : FI := ⟨match Tryd.f79.body with | some c => c | none => .skip, Tryd.f79.ntmps, Tryd.f79.results.toList⟩
noncomputable def ff80 : FI := ⟨match Tryd.f80.body with | some c => c | none => .skip, Tryd.f80.ntmps, Tryd.f80.results.toList⟩
noncomputable def ff81 : FI := ⟨match Tryd.f81.body with | some c => c | none => .skip, Tryd.f81.ntmps, Tryd.f81.results.toList⟩
noncomputable def ff82 : FI := ⟨match Tryd.f82.body with | some c => c | none => .skip, Tryd.f82.ntmps, Tryd.f82.results.toList⟩
noncomputable def ff83 : FI := ⟨match Tryd.f83.body with | some c => c | none => .skip, Tryd.f83.ntmps, Tryd.f83.results.toList⟩
noncomputable def ff84 : FI := ⟨match Tryd.f84.body with | some c => c | none => .skip, Tryd.f84.ntmps, Tryd.f84.results.toList⟩
noncomputable def ff86 : FI := ⟨match Tryd.f86.body with | some c => c | none => .skip, Tryd.f86.ntmps, Tryd.f86.results.toList⟩
noncomputable def ff87 : FI := ⟨match Tryd.f87.body with | some c => c | none => .skip, Tryd.f87.ntmps, Tryd.f87.results.toList⟩
noncomputable def ff88 : FI := ⟨match Tryd.f88.body with | some c => c | none => .skip, Tryd.f88.ntmps, Tryd.f88.results.toList⟩
noncomputable def ff89 : FI := ⟨match Tryd.f89.body with | some c => c | none => .skip, Tryd.f89.ntmps, Tryd.f89.results.toList⟩
noncomputable def ff90 : FI := ⟨match Tryd.f90.body with | some c => c | none => .skip, Tryd.f90.ntmps, Tryd.f90.results.toList⟩
noncomputable def ff91 : FI := ⟨match Tryd.f91.body with | some c => c | none => .skip, Tryd.f91.ntmps, Tryd.f91.results.toList⟩
noncomputable def ff92 : FI := ⟨match Tryd.f92.body with | some c => c | none => .skip, Tryd.f92.ntmps, Tryd.f92.results.toList⟩
noncomputable def ff93 : FI := ⟨match Tryd.f93.body with | some c => c | none => .skip, Tryd.f93.ntmps, Tryd.f93.results.toList⟩
noncomputable def ff94 : FI := ⟨match Tryd.f94.body with | some c => c | none => .skip, Tryd.f94.ntmps, Tryd.f94.results.toList⟩
noncomputable def ff95 : FI := ⟨match Tryd.f95.body with | some c => c | none => .skip, Tryd.f95.ntmps, Tryd.f95.results.toList⟩
noncomputable def ff96 : FI := ⟨match Tryd.f96.body with | some c => c | none => .skip, Tryd.f96.ntmps, Tryd.f96.results.toList⟩
noncomputable def ff97 : FI := ⟨match Tryd.f97.body with | some c => c | none => .skip, Tryd.f97.ntmps, Tryd.f97.results.toList⟩
noncomputable def ff98 : FI := ⟨match Tryd.f98.body with | some c => c | none => .skip, Tryd.f98.ntmps, Tryd.f98.results.toList⟩
noncomputable def ff99 : FI := ⟨match Tryd.f99.body with | some c => c | none => .skip, Tryd.f99.ntmps, Tryd.f99.results.toList⟩
noncomputable def ff100 : FI := ⟨match Tryd.f100.body with | some c => c | none => .skip, Tryd.f100.ntmps, Tryd.f100.results.toList⟩
noncomputable def ff101 : FI := ⟨match Tryd.f101.body with | some c => c | none => .skip, Tryd.f101.ntmps, Tryd.f101.results.toList⟩
noncomputable def ff102 : FI := ⟨match Tryd.f102.body with | some c => c | none => .skip, Tryd.f102.ntmps, Tryd.f102.results.toList⟩
noncomputable def ff103 : FI := ⟨match Tryd.f103.body with | some c => c | none => .skip, Tryd.f103.ntmps, Tryd.f103.results.toList⟩
noncomputable def ff104 : FI := ⟨match Tryd.f104.body with | some c => c | none => .skip, Tryd.f104.ntmps, Tryd.f104.results.toList⟩
noncomputable def ff105 : FI := ⟨match Tryd.f105.body with | some c => c | none => .skip, Tryd.f105.ntmps, Tryd.f105.results.toList⟩
noncomputable def ff106 : FI := ⟨match Tryd.f106.body with | some c => c | none => .skip, Tryd.f106.ntmps, Tryd.f106.results.toList⟩
noncomputable def ff107 : FI := ⟨match Tryd.f107.body with | some c => c | none => .skip, Tryd.f107.ntmps, Tryd.f107.results.toList⟩
noncomputable def ff108 : FI := ⟨match Tryd.f108.body with | some c => c | none => .skip, Tryd.f108.ntmps, Tryd.f108.results.toList⟩
noncomputable def ff109 : FI := ⟨match Tryd.f109.body with | some c => c | none => .skip, Tryd.f109.ntmps, Tryd.f109.results.toList⟩
noncomputable def ff110 : FI := ⟨match Tryd.f110.body with | some c => c | none => .skip, Tryd.f110.ntmps, Tryd.f110.results.toList⟩
noncomputable def ff111 : FI := ⟨match Tryd.f111.body with | some c => c | none => .skip, Tryd.f111.ntmps, Tryd.f111.results.toList⟩
noncomputable def ff112 : FI := ⟨match Tryd.f112.body with | some c => c | none => .skip, Tryd.f112.ntmps, Tryd.f112.results.toList⟩
noncomputable def ff113 : FI := ⟨match Tryd.f113.body with | some c => c | none => .skip, Tryd.f113.ntmps, Tryd.f113.results.toList⟩
noncomputable def ff114 : FI := ⟨match Tryd.f114.body with | some c => c | none => .skip, Tryd.f114.ntmps, Tryd.f114.results.toList⟩
noncomputable def ff116 : FI := ⟨match Tryd.f116.body with | some c => c | none => .skip, Tryd.f116.ntmps, Tryd.f116.results.toList⟩
noncomputable def ff117 : FI := ⟨match Tryd.f117.body with | some c => c | none => .skip, Tryd.f117.ntmps, Tryd.f117.results.toList⟩
noncomputable def ff118 : FI := ⟨match Tryd.f118.body with | some c => c | none => .skip, Tryd.f118.ntmps, Tryd.f118.results.toList⟩
noncomputable def ff119 : FI := ⟨match Tryd.f119.body with | some c => c | none => .skip, Tryd.f119.ntmps, Tryd.f119.results.toList⟩
noncomputable def ff120 : FI := ⟨match Tryd.f120.body with | some c => c | none => .skip, Tryd.f120.ntmps, Tryd.f120.results.toList⟩
noncomputable def ff121 : FI := ⟨match Tryd.f121.body with | some c => c | none => .skip, Tryd.f121.ntmps, Tryd.f121.results.toList⟩
noncomputable def ff122 : FI := ⟨match Tryd.f122.body with | some c => c | none => .skip, Tryd.f122.ntmps, Tryd.f122.results.toList⟩
noncomputable def ff124 : FI := ⟨match Tryd.f124.body with | some c => c | none => .skip, Tryd.f124.ntmps, Tryd.f124.results.toList⟩
noncomputable def ff125 : FI := ⟨match Tryd.f125.body with | some c => c | none => .skip, Tryd.f125.ntmps, Tryd.f125.results.toList⟩
noncomputable def ff126 : FI := ⟨match Tryd.f126.body with | some c => c | none => .skip, Tryd.f126.ntmps, Tryd.f126.results.toList⟩
noncomputable def ff147 : FI := ⟨match Tryd.f147.body with | some c => c | none => .skip, Tryd.f147.ntmps, Tryd.f147.results.toList⟩
noncomputable def ty : En (Option TI) := (.node (.node (.node (.node (.node (.node (.node (.node (.leaf (some ⟨1, 0, (.tup []), .other, []⟩)) (.leaf (some ⟨1, 8, .nfunc, .func, []⟩))) (.node (.leaf (some ⟨1, 8, .nfunc, .func, []⟩)) (.leaf none))) (.node (.node (.leaf (some ⟨1, 8, .nfunc, .func, []⟩)) (.leaf (some ⟨2, 2, (.agg [(.int .u8 0), (.int .u8 0)]), (.strct [(0, 5, 1), (1, 5, 1)]), []⟩))) (.node (.leaf (some ⟨16, 128, (.agg (rep 16 [(.int .i64 0)])), (.array 16 3), []⟩)) (.leaf none)))) (.node (.node (.node (.leaf (some ⟨1, 8, .nptr, (.ptr 168), []⟩)) (.leaf none)) (.leaf none)) (.node (.node (.leaf (some ⟨1, 8, .nfunc, .func, []⟩)) (.leaf (some ⟨11, 48, (.agg [(.int .u64 0), (.int .u64 0), (.int .u32 0), (.int .u8 0), (.int .u8 0), (.int .u8 0), (.int .u8 0), .nfunc, .nptr, (.int .i32 0), (.int .i32 0)]), (.strct [(0, 12, 1), (1, 12, 1), (2, 155, 1), (3, 170, 1), (4, 5, 1), (5, 5, 1), (6, 171, 1), (7, 172, 1), (8, 173, 1), (9, 174, 1), (10, 175, 1)]), []⟩))) (.node (.leaf (some ⟨4, 64, (.agg [.nslice, .nslice, (.int .i64 0), (.int .i64 0)]), (.strct [(0, 24, 4)]), []⟩)) (.leaf none))))) (.node (.node (.node (.node (.leaf (some ⟨4, 24, (.agg [(.int .i64 0), (.int .i64 0), (.bool false), (.int .u8 0)]), (.strct [(0, 2, 1), (1, 3, 1), (2, 4, 1), (3, 6, 1)]), []⟩)) (.leaf (some ⟨1, 8, .nfunc, .func, []⟩))) (.node (.leaf (some ⟨1, 8, .nfunc, .func, []⟩)) (.leaf none))) (.node (.node (.leaf (some ⟨1, 8, .nfunc, .func, []⟩)) (.leaf (some ⟨0, 0, (.agg []), (.strct [(0, 166, 0)]), []⟩))) (.node (.leaf (some ⟨1, 8, .nfunc, .func, []⟩)) (.leaf none)))) (.node (.node (.node (.leaf (some ⟨4, 64, (.agg [.nslice, .nslice, (.int .i64 0), (.int .i64 0)]), (.strct [(0, 22, 1), (1, 22, 1), (2, 3, 1), (3, 3, 1)]), []⟩)) (.leaf (some ⟨1, 8, .nfunc, .func, []⟩))) (.node (.leaf (some ⟨1, 8, .nfunc, .func, []⟩)) (.leaf none))) (.node (.node (.leaf (some ⟨1, 8, .nfunc, .func, []⟩)) (.leaf none)) (.node (.leaf (some ⟨1, 8, .nfunc, .func, []⟩)) (.leaf none)))))) (.node (.node (.node (.node (.node (.leaf (some ⟨1, 1, (.bool false), .bool, []⟩)) (.leaf (some ⟨256, 256, (.agg (rep 256 [(.bool false)])), (.array 256 4), []⟩))) (.node (.leaf (some ⟨1, 8, .nfunc, .func, []⟩)) (.leaf none))) (.node (.node (.leaf (some ⟨1, 8, .nfunc, .func, []⟩)) (.leaf (some ⟨4, 40, (.agg [.nptr, .nptr, .nptr, (.str [])]), (.strct [(0, 17, 1), (1, 17, 1), (2, 17, 1), (3, 9, 1)]), []⟩))) (.node (.leaf (some ⟨1, 8, .nfunc, .func, []⟩)) (.leaf none)))) (.node (.node (.node (.leaf (some ⟨1, 16, .niface, .iface, []⟩)) (.leaf (some ⟨1, 8, .nfunc, .func, []⟩))) (.node (.leaf (some ⟨2, 16, (.agg [(.int .i64 0), (.int .i64 0)]), (.strct [(0, 3, 1), (1, 3, 1)]), [.i, .i]⟩)) (.leaf none))) (.node (.node (.leaf (some ⟨1, 8, .nfunc, .func, []⟩)) (.leaf none)) (.node (.leaf (some ⟨1, 8, .nfunc, .func, []⟩)) (.leaf none))))) (.node (.node (.node (.node (.leaf (some ⟨1, 8, (.int .u64 0), (.int .u64), []⟩)) (.leaf (some ⟨3, 24, (.agg [(.int .i64 0), (.int .i64 0), (.int .i64 0)]), (.strct [(0, 84, 2), (2, 3, 1)]), []⟩))) (.node (.leaf (some ⟨1, 8, .nfunc, .func, []⟩)) (.leaf none))) (.node (.node (.leaf (some ⟨2, 16, (.agg [(.int .i64 0), (.int .i64 0)]), (.strct [(0, 2, 1), (1, 2, 1)]), []⟩)) (.leaf (some ⟨1, 8, .nfunc, .func, []⟩))) (.node (.leaf (some ⟨1, 8, .nfunc, .func, []⟩)) (.leaf none)))) (.node (.node (.node (.leaf (some ⟨1, 8, (.int .i64 0), (.int .i64), []⟩)) (.leaf none)) (.node (.leaf (some ⟨1, 8, .nfunc, .func, []⟩)) (.leaf none))) (.node (.node (.leaf (some ⟨1, 8, .nfunc, .func, []⟩)) (.leaf none)) (.node (.leaf (some ⟨1, 8, .nfunc, .func, []⟩)) (.leaf none))))))) (.node (.node (.node (.node (.node (.node (.leaf (some ⟨1, 8, (.int .i64 0), (.int .i64), []⟩)) (.leaf none)) (.node (.leaf (some ⟨1, 8, .nfunc, .func, []⟩)) (.leaf none))) (.node (.node (.leaf (some ⟨1, 8, .nfunc, .func, []⟩)) (.leaf (some ⟨1, 8, .nfunc, .func, []⟩))) (.node (.leaf (some ⟨1, 8, .nfunc, .func, []⟩)) (.leaf none)))) (.node (.node (.node (.leaf (some ⟨1, 8, (.agg [.nptr]), (.strct [(0, 17, 1)]), []⟩)) (.leaf (some ⟨1, 8, .nfunc, .func, []⟩))) (.node (.leaf (some ⟨1, 8, .nfunc, .func, []⟩)) (.leaf none))) (.node (.node (.leaf (some ⟨1, 8, .nfunc, .func, []⟩)) (.leaf (some ⟨1, 8, .nptr, .other, []⟩))) (.node (.leaf (some ⟨1, 8, .nfunc, .func, []⟩)) (.leaf none))))) (.node (.node (.node (.node (.leaf (some ⟨1, 16, (.str []), .string, []⟩)) (.leaf (some ⟨1, 8, .nfunc, .func, []⟩))) (.node (.leaf (some ⟨1, 8, .nfunc, .func, []⟩)) (.leaf none))) (.node (.node (.leaf (some ⟨1, 8, .nfunc, .func, []⟩)) (.leaf (some ⟨1, 1, (.int .u8 0), (.int .u8), []⟩))) (.node (.leaf (some ⟨1, 8, .nfunc, .func, []⟩)) (.leaf none)))) (.node (.node (.node (.leaf (some ⟨1, 8, .nfunc, .func, []⟩)) (.leaf (some ⟨1, 8, .nfunc, .func, []⟩))) (.node (.leaf (some ⟨1, 8, .nfunc, .func, []⟩)) (.leaf none))) (.node (.node (.leaf (some ⟨1, 8, .nfunc, .func, []⟩)) (.leaf none)) (.node (.leaf (some ⟨1, 8, .nfunc, .func, []⟩)) (.leaf none)))))) (.node (.node (.node (.node (.node (.leaf (some ⟨1, 1, (.int .u8 0), (.int .u8), []⟩)) (.leaf none)) (.node (.leaf (some ⟨1, 8, .nfunc, .func, []⟩)) (.leaf none))) (.node (.node (.leaf (some ⟨1, 8, .nfunc, .func, []⟩)) (.leaf (some ⟨0, 0, (.agg []), (.array 0 16), []⟩))) (.node (.leaf (some ⟨1, 8, .nfunc, .func, []⟩)) (.leaf none)))) (.node (.node (.node (.leaf (some ⟨1, 24, .nslice, (.slice 3), []⟩)) (.leaf (some ⟨1, 8, (.int .u64 0), (.int .u64), []⟩))) (.node (.leaf (some ⟨1, 8, .nfunc, .func, []⟩)) (.leaf none))) (.node (.node (.leaf (some ⟨2, 16, (.agg [(.int .i64 0), (.int .i64 0)]), (.strct [(0, 2, 1), (1, 2, 1)]), [.i, .i]⟩)) (.leaf none)) (.node (.leaf (some ⟨1, 8, .nfunc, .func, []⟩)) (.leaf none))))) (.node (.node (.node (.node (.leaf (some ⟨2, 24, (.agg [(.str []), (.int .u64 0)]), (.strct [(0, 9, 1), (1, 12, 1)]), []⟩)) (.leaf (some ⟨2, 24, (.agg [(.int .i64 0), (.str [])]), (.strct [(0, 3, 1), (1, 9, 1)]), []⟩))) (.node (.leaf (some ⟨1, 8, .nfunc, .func, []⟩)) (.leaf none))) (.node (.node (.leaf none) (.leaf (some ⟨1, 4, (.int .i32 0), (.int .i32), []⟩))) (.node (.leaf (some ⟨1, 8, .nfunc, .func, []⟩)) (.leaf none)))) (.node (.node (.node (.leaf (some ⟨1, 8, .nfunc, .func, []⟩)) (.leaf (some ⟨256, 256, (.agg (rep 256 [(.int .u8 0)])), (.array 256 5), []⟩))) (.node (.leaf (some ⟨1, 8, .nfunc, .func, []⟩)) (.leaf none))) (.node (.node (.leaf (some ⟨1, 8, .nfunc, .func, []⟩)) (.leaf none)) (.node (.leaf (some ⟨1, 8, .nfunc, .func, []⟩)) (.leaf none)))))))) (.node (.node (.node (.node (.node (.node (.node (.leaf (some ⟨1, 8, .nfunc, .func, []⟩)) (.leaf (some ⟨1, 8, .nmap, (.map 3 3), []⟩))) (.node (.leaf (some ⟨1, 8, .nfunc, .func, []⟩)) (.leaf none))) (.node (.node (.leaf none) (.leaf (some ⟨32, 32, (.agg (rep 32 [(.int .u8 0)])), (.array 16 160), []⟩))) (.node (.leaf (some ⟨16, 128, (.agg (rep 16 [(.int .i64 0)])), (.array 16 3), (List.replicate 16 .i)⟩)) (.leaf none)))) (.node (.node (.node (.leaf (some ⟨1, 8, .nptr, (.ptr 177), []⟩)) (.leaf (some ⟨1, 8, .nfunc, .func, []⟩))) (.node (.leaf (some ⟨1, 8, .nfunc, .func, []⟩)) (.leaf none))) (.node (.node (.leaf none) (.leaf (some ⟨11, 48, (.agg [(.int .u64 0), (.int .u64 0), (.int .u32 0), (.int .u8 0), (.int .u8 0), (.int .u8 0), (.int .u8 0), .nfunc, .nptr, (.int .i32 0), (.int .i32 0)]), (.strct [(0, 12, 1), (1, 12, 1), (2, 155, 1), (3, 170, 1), (4, 5, 1), (5, 5, 1), (6, 171, 1), (7, 172, 1), (8, 173, 1), (9, 174, 1), (10, 175, 1)]), []⟩))) (.node (.leaf (some ⟨1, 8, .nfunc, .func, []⟩)) (.leaf none))))) (.node (.node (.node (.node (.leaf (some ⟨1, 16, (.str []), .string, []⟩)) (.leaf (some ⟨1, 8, .nptr, (.ptr 133), []⟩))) (.node (.leaf (some ⟨1, 8, .nfunc, .func, []⟩)) (.leaf none))) (.node (.node (.leaf (some ⟨1, 8, .nfunc, .func, []⟩)) (.leaf (some ⟨1, 8, .nfunc, .func, []⟩))) (.leaf none))) (.node (.node (.node (.leaf (some ⟨1, 8, .nfunc, .func, []⟩)) (.leaf (some ⟨1, 8, .nfunc, .func, []⟩))) (.node (.leaf (some ⟨1, 8, .nfunc, .func, []⟩)) (.leaf none))) (.node (.node (.leaf (some ⟨1, 8, .nfunc, .func, []⟩)) (.leaf none)) (.leaf none))))) (.node (.node (.node (.node (.node (.leaf (some ⟨1, 1, (.int .u8 0), (.int .u8), []⟩)) (.leaf (some ⟨256, 256, (.agg (rep 256 [(.bool false)])), (.array 256 4), []⟩))) (.node (.leaf (some ⟨1, 8, .nfunc, .func, []⟩)) (.leaf none))) (.node (.node (.leaf (some ⟨1, 8, .nfunc, .func, []⟩)) (.leaf (some ⟨4, 40, (.agg [.nptr, .nptr, .nptr, (.str [])]), (.strct [(0, 17, 1), (1, 17, 1), (2, 17, 1), (3, 9, 1)]), []⟩))) (.node (.leaf (some ⟨1, 8, .nfunc, .func, []⟩)) (.leaf none)))) (.node (.node (.node (.leaf (some ⟨1, 4, (.int .i32 0), (.int .i32), []⟩)) (.leaf (some ⟨1, 8, .nfunc, .func, []⟩))) (.leaf none)) (.node (.node (.leaf (some ⟨2, 16, (.agg [(.int .i64 0), (.int .i64 0)]), (.strct [(0, 2, 1), (1, 2, 1)]), []⟩)) (.leaf none)) (.node (.leaf (some ⟨1, 8, .nfunc, .func, []⟩)) (.leaf none))))) (.node (.node (.node (.node (.leaf (some ⟨2, 24, (.agg [(.str []), (.int .u64 0)]), (.strct [(0, 9, 1), (1, 12, 1)]), []⟩)) (.leaf (some ⟨3, 24, (.agg [(.int .i64 0), (.int .i64 0), (.int .i64 0)]), (.strct [(0, 84, 2), (2, 3, 1)]), []⟩))) (.node (.leaf (some ⟨1, 8, .nfunc, .func, []⟩)) (.leaf none))) (.node (.node (.leaf (some ⟨2, 16, (.agg [(.int .i64 0), (.int .i64 0)]), (.strct [(0, 2, 1), (1, 2, 1)]), [.i, .i]⟩)) (.leaf (some ⟨1, 8, .nptr, (.ptr 5), []⟩))) (.node (.leaf (some ⟨1, 8, .nfunc, .func, []⟩)) (.leaf none)))) (.node (.node (.node (.leaf none) (.leaf (some ⟨1, 8, .nfunc, .func, []⟩))) (.node (.leaf (some ⟨1, 8, .nfunc, .func, []⟩)) (.leaf none))) (.node (.node (.leaf (some ⟨1, 8, .nfunc, .func, []⟩)) (.leaf none)) (.node (.leaf (some ⟨1, 8, .nfunc, .func, []⟩)) (.leaf none))))))) (.node (.node (.node (.node (.node (.node (.leaf (some ⟨1, 8, (.int .i64 0), (.int .i64), []⟩)) (.leaf (some ⟨1, 8, .nfunc, .func, []⟩))) (.node (.leaf (some ⟨1, 8, .nfunc, .func, []⟩)) (.leaf none))) (.node (.node (.leaf none) (.leaf (some ⟨1, 8, .nfunc, .func, []⟩))) (.node (.leaf (some ⟨1, 8, .nfunc, .func, []⟩)) (.leaf none)))) (.node (.node (.node (.leaf (some ⟨1, 8, (.agg [.nptr]), (.strct [(0, 17, 1)]), []⟩)) (.leaf none)) (.node (.leaf (some ⟨2, 16, (.agg [(.int .i64 0), (.int .i64 0)]), (.strct [(0, 3, 1), (1, 3, 1)]), []⟩)) (.leaf none))) (.node (.node (.leaf (some ⟨1, 8, .nfunc, .func, []⟩)) (.leaf none)) (.node (.leaf (some ⟨1, 8, .nfunc, .func, []⟩)) (.leaf none))))) (.node (.node (.node (.node (.leaf (some ⟨1, 16, (.str []), .string, []⟩)) (.leaf (some ⟨1, 8, .nmap, (.map 141 143), []⟩))) (.node (.leaf (some ⟨1, 8, .nfunc, .func, []⟩)) (.leaf none))) (.node (.node (.leaf (some ⟨1, 8, .nfunc, .func, []⟩)) (.leaf (some ⟨1, 1, (.int .u8 0), (.int .u8), []⟩))) (.leaf none))) (.node (.node (.node (.leaf (some ⟨1, 8, .nfunc, .func, []⟩)) (.leaf (some ⟨1, 4, (.int .u32 0), (.int .u32), []⟩))) (.node (.leaf (some ⟨1, 8, .nfunc, .func, []⟩)) (.leaf none))) (.node (.leaf none) (.node (.leaf (some ⟨1, 24, .nslice, (.slice 45), []⟩)) (.leaf none)))))) (.node (.node (.node (.node (.node (.leaf (some ⟨4, 24, (.agg [(.int .i64 0), (.int .i64 0), (.bool false), (.int .u8 0)]), (.strct [(0, 2, 1), (1, 3, 1), (2, 4, 1), (3, 6, 1)]), []⟩)) (.leaf (some ⟨1, 8, .nfunc, .func, []⟩))) (.node (.leaf (some ⟨1, 8, .nfunc, .func, []⟩)) (.leaf none))) (.node (.node (.leaf none) (.leaf (some ⟨0, 0, (.agg []), (.strct [(0, 166, 0)]), []⟩))) (.node (.leaf (some ⟨1, 8, .nfunc, .func, []⟩)) (.leaf none)))) (.node (.node (.node (.leaf (some ⟨4, 64, (.agg [.nslice, .nslice, (.int .i64 0), (.int .i64 0)]), (.strct [(0, 22, 1), (1, 22, 1), (2, 3, 1), (3, 3, 1)]), []⟩)) (.leaf (some ⟨1, 24, .nslice, (.slice 143), []⟩))) (.node (.leaf (some ⟨1, 8, .nfunc, .func, []⟩)) (.leaf none))) (.node (.leaf none) (.node (.leaf (some ⟨1, 8, .nfunc, .func, []⟩)) (.leaf none))))) (.node (.node (.node (.node (.leaf (some ⟨1, 8, .nptr, (.ptr 165), []⟩)) (.leaf (some ⟨2, 24, (.agg [(.int .i64 0), (.str [])]), (.strct [(0, 3, 1), (1, 9, 1)]), []⟩))) (.node (.leaf (some ⟨1, 8, .nptr, (.ptr 112), []⟩)) (.leaf none))) (.node (.node (.leaf (some ⟨1, 8, .nfunc, .func, []⟩)) (.leaf (some ⟨1, 4, (.int .i32 0), (.int .i32), []⟩))) (.node (.leaf (some ⟨4, 64, (.agg [.nslice, .nslice, (.int .i64 0), (.int .i64 0)]), (.strct [(0, 24, 4)]), []⟩)) (.leaf none)))) (.node (.node (.node (.leaf (some ⟨1, 8, .nfunc, .func, []⟩)) (.leaf (some ⟨2, 2, (.agg [(.int .u8 0), (.int .u8 0)]), (.strct [(0, 5, 1), (1, 5, 1)]), []⟩))) (.node (.leaf (some ⟨1, 8, .nfunc, .func, []⟩)) (.leaf none))) (.node (.node (.leaf (some ⟨1, 24, .nslice, (.slice 5), []⟩)) (.leaf none)) (.node (.leaf (some ⟨1, 8, .nfunc, .func, []⟩)) (.leaf none)))))))))
noncomputable def fn : En (Option FI) := (.node (.node (.node (.node (.node (.node (.node (.leaf none) (.node (.leaf (some ff64)) (.leaf none))) (.node (.node (.leaf (some ff32)) (.leaf none)) (.node (.leaf (some ff96)) (.leaf none)))) (.node (.node (.node (.leaf (some ff16)) (.leaf none)) (.node (.leaf (some ff80)) (.leaf none))) (.node (.node (.leaf (some ff48)) (.leaf none)) (.node (.leaf (some ff112)) (.leaf none))))) (.node (.node (.node (.node (.leaf (some ff8)) (.leaf none)) (.node (.leaf (some ff72)) (.leaf none))) (.node (.node (.leaf (some ff40)) (.leaf none)) (.node (.leaf (some ff104)) (.leaf none)))) (.node (.node (.node (.leaf (some ff24)) (.leaf none)) (.node (.leaf (some ff88)) (.leaf none))) (.node (.node (.leaf (some ff56)) (.leaf none)) (.node (.leaf (some ff120)) (.leaf none)))))) (.node (.node (.node (.node (.node (.leaf (some ff4)) (.leaf none)) (.node (.leaf (some ff68)) (.leaf none))) (.node (.node (.leaf (some ff36)) (.leaf none)) (.node (.leaf (some ff100)) (.leaf none)))) (.node (.node (.node (.leaf (some ff20)) (.leaf none)) (.node (.leaf (some ff84)) (.leaf none))) (.node (.node (.leaf (some ff52)) (.leaf none)) (.node (.leaf (some ff116)) (.leaf none))))) (.node (.node (.node (.node (.leaf (some ff12)) (.leaf none)) (.node (.leaf (some ff76)) (.leaf none))) (.node (.node (.leaf (some ff44)) (.leaf none)) (.node (.leaf (some ff108)) (.leaf none)))) (.node (.node (.node (.leaf (some ff28)) (.leaf none)) (.node (.leaf (some ff92)) (.leaf none))) (.node (.node (.leaf (some ff60)) (.leaf none)) (.node (.leaf (some ff124)) (.leaf none))))))) (.node (.node (.node (.node (.node (.node (.leaf (some ff2)) (.leaf none)) (.node (.leaf (some ff66)) (.leaf none))) (.node (.node (.leaf (some ff34)) (.leaf none)) (.node (.leaf (some ff98)) (.leaf none)))) (.node (.node (.node (.leaf (some ff18)) (.leaf none)) (.node (.leaf (some ff82)) (.leaf none))) (.node (.node (.leaf (some ff50)) (.leaf none)) (.node (.leaf (some ff114)) (.leaf none))))) (.node (.node (.node (.node (.leaf (some ff10)) (.leaf none)) (.node (.leaf (some ff74)) (.leaf none))) (.node (.node (.leaf (some ff42)) (.leaf none)) (.node (.leaf (some ff106)) (.leaf none)))) (.node (.node (.node (.leaf (some ff26)) (.leaf none)) (.node (.leaf (some ff90)) (.leaf none))) (.node (.node (.leaf (some ff58)) (.leaf none)) (.node (.leaf (some ff122)) (.leaf none)))))) (.node (.node (.node (.node (.node (.leaf (some ff6)) (.leaf none)) (.node (.leaf (some ff70)) (.leaf none))) (.node (.node (.leaf (some ff38)) (.leaf none)) (.node (.leaf (some ff102)) (.leaf none)))) (.node (.node (.node (.leaf (some ff22)) (.leaf none)) (.node (.leaf (some ff86)) (.leaf none))) (.node (.node (.leaf (some ff54)) (.leaf none)) (.node (.leaf (some ff118)) (.leaf none))))) (.node (.node (.node (.node (.leaf (some ff14)) (.leaf none)) (.node (.leaf (some ff78)) (.leaf none))) (.node (.node (.leaf (some ff46)) (.leaf none)) (.node (.leaf (some ff110)) (.leaf none)))) (.node (.node (.node (.leaf (some ff30)) (.leaf none)) (.node (.leaf (some ff94)) (.leaf none))) (.node (.node (.leaf (some ff62)) (.leaf none)) (.node (.leaf (some ff126)) (.leaf none)))))))) (.node (.node (.node (.node (.node (.node (.leaf none) (.node (.leaf (some ff65)) (.leaf none))) (.node (.node (.leaf (some ff33)) (.leaf none)) (.node (.leaf (some ff97)) (.leaf none)))) (.node (.node (.node (.leaf (some ff17)) (.leaf none)) (.node (.leaf (some ff81)) (.leaf none))) (.node (.node (.leaf (some ff49)) (.leaf none)) (.node (.leaf (some ff113)) (.leaf none))))) (.node (.node (.node (.node (.leaf (some ff9)) (.leaf none)) (.node (.leaf (some ff73)) (.leaf none))) (.node (.node (.leaf (some ff41)) (.leaf none)) (.node (.leaf (some ff105)) (.leaf none)))) (.node (.node (.node (.leaf (some ff25)) (.leaf none)) (.node (.leaf (some ff89)) (.leaf none))) (.node (.node (.leaf (some ff57)) (.leaf none)) (.node (.leaf (some ff121)) (.leaf none)))))) (.node (.node (.node (.node (.node (.leaf (some ff5)) (.leaf none)) (.node (.leaf (some ff69)) (.leaf none))) (.node (.node (.leaf (some ff37)) (.leaf none)) (.node (.leaf (some ff101)) (.leaf none)))) (.node (.node (.node (.leaf (some ff21)) (.leaf none)) (.leaf none)) (.node (.node (.leaf (some ff53)) (.leaf none)) (.node (.leaf (some ff117)) (.leaf none))))) (.node (.node (.node (.node (.leaf (some ff13)) (.leaf none)) (.node (.leaf (some ff77)) (.leaf none))) (.node (.node (.leaf (some ff45)) (.leaf none)) (.node (.leaf (some ff109)) (.leaf none)))) (.node (.node (.node (.leaf (some ff29)) (.leaf none)) (.node (.leaf (some ff93)) (.leaf none))) (.node (.node (.leaf (some ff61)) (.leaf none)) (.node (.leaf (some ff125)) (.leaf none))))))) (.node (.node (.node (.node (.node (.node (.leaf (some ff3)) (.leaf none)) (.node (.leaf (some ff67)) (.leaf none))) (.node (.node (.leaf (some ff35)) (.leaf none)) (.node (.leaf (some ff99)) (.leaf none)))) (.node (.node (.node (.leaf (some ff19)) (.leaf (some ff147))) (.node (.leaf (some ff83)) (.leaf none))) (.node (.node (.leaf (some ff51)) (.leaf none)) (.leaf none)))) (.node (.node (.node (.node (.leaf (some ff11)) (.leaf none)) (.node (.leaf (some ff75)) (.leaf none))) (.node (.node (.leaf (some ff43)) (.leaf none)) (.node (.leaf (some ff107)) (.leaf none)))) (.node (.node (.node (.leaf (some ff27)) (.leaf none)) (.node (.leaf (some ff91)) (.leaf none))) (.node (.node (.leaf (some ff59)) (.leaf none)) (.leaf none))))) (.node (.node (.node (.node (.node (.leaf (some ff7)) (.leaf none)) (.node (.leaf (some ff71)) (.leaf none))) (.node (.node (.leaf (some ff39)) (.leaf none)) (.node (.leaf (some ff103)) (.leaf none)))) (.node (.node (.node (.leaf (some ff23)) (.leaf none)) (.node (.leaf (some ff87)) (.leaf none))) (.node (.node (.leaf (some ff55)) (.leaf none)) (.node (.leaf (some ff119)) (.leaf none))))) (.node (.node (.node (.node (.leaf (some ff15)) (.leaf none)) (.node (.leaf (some ff79)) (.leaf none))) (.node (.node (.leaf (some ff47)) (.leaf none)) (.node (.leaf (some ff111)) (.leaf none)))) (.node (.node (.node (.leaf (some ff31)) (.leaf none)) (.node (.leaf (some ff95)) (.leaf none))) (.node (.node (.leaf (some ff63)) (.leaf none)) (.leaf none))))))))
noncomputable def ext (f : Nat) : X := match f with | 85 => .cnt | 123 => .idx | _ => .no
noncomputable def pr : Pr := ⟨fun t => Run.ite (Nat.ble (Nat.succ t) 256) (En.get (Pa.of 8 t) ty) none, fun f => Run.ite (Nat.ble (Nat.succ f) 256) (En.get (Pa.of 8 f) fn) none, fun _ => 0, ext⟩
end Go.Proofs.YtafemfjhflfdeaaDoor.Pt
end
section
set_option linter.unusedVariables false
set_option linter.unusedSimpArgs false
namespace Go.Run
open Go Go.Eng
section draw
variable {P : Program} {p : Pr} {ι : Io} {s s' : S} {h : Heap} {m : Fm} {e e' : E} {er : Env} {ty : TypeId} {t : T} {K : Value → Heap → Prop} {cf : CallRun}
structure PlanF (all : List Oper) (l : List (Oper × PO)) : Prop where
  dep : ∀ {i : Nat} {x : Oper × PO}, l[i]? = some x → ∀ d ∈ deps x.1, d < i
  kind : ∀ {i : Nat} {x : Oper × PO}, l[i]? = some x → x.2.k = kindOf x.1.op
  lole : ∀ {i : Nat} {x : Oper × PO}, l[i]? = some x → x.2.lo ≤ i
  lo : ∀ {i : Nat} {x : Oper × PO}, l[i]? = some x → x.2.lo = 0 ∨ ∃ (c d : Nat) (y : Oper × PO), x.2.lo = c + 1 ∧ d ∈ deps x.1 ∧ l[d]? = some y ∧ ((y.2.k = 2 ∧ c = d) ∨ y.2.lo = c + 1)
  hi : ∀ {i : Nat} {x : Oper × PO}, l[i]? = some x → l.length ≤ x.2.hi ∨ ∃ (j : Nat) (y : Oper × PO), l[j]? = some y ∧ i ∈ deps y.1 ∧ ((y.2.k = 2 ∧ x.2.hi = j) ∨ y.2.hi = x.2.hi)
  chain : ∀ {i : Nat} {x : Oper × PO}, l[i]? = some x → x.2.k = 2 → ∀ {j : Nat} {y : Oper × PO}, l[j]? = some y → j < i → y.2.k = 2 → j < x.2.lo
  slots : ∀ {i : Nat} {x : Oper × PO}, l[i]? = some x → ∀ {j : Nat} {y : Oper × PO}, l[j]? = some y → i ≠ j → ∀ q, y.1.dst = some q → x.1.dst ≠ some q ∧ (q ∈ looks all x.1 → j ∈ deps x.1 ∨ i ∈ deps y.1)
section plan
variable {all : List Oper} {l : List (Oper × PO)} (F : PlanF all l) {f : Nat → Bool}
noncomputable def Closed (l : List (Oper × PO)) (f : Nat → Bool) : Prop := ∀ i x, l[i]? = some x → f i = true → ∀ d ∈ deps x.1, f d = true
include F
theorem lo_spec (hc : Closed l f) : ∀ (i : Nat) (x : Oper × PO), l[i]? = some x → (∀ d ∈ deps x.1, f d = true) → x.2.lo = 0 ∨ ∃ c y, x.2.lo = c + 1 ∧ l[c]? = some y ∧ y.2.k = 2 ∧ f c = true := by
  intro i
  induction i using Nat.strongRecOn with
  | _ i ih =>
    intro x hx hd
    rcases F.lo hx with h | ⟨c, d, y, h1, h2, h3, h4⟩
    · exact .inl h
    · rcases h4 with ⟨h4, rfl⟩ | h4
      · exact .inr ⟨c, y, h1, h3, h4, hd _ h2⟩
      · have hfd := hd _ h2
        rcases ih d (F.dep hx d h2) y h3 (hc d y h3 hfd) with h5 | ⟨c', y', h5, h6⟩
        · omega
        · obtain rfl : c' = c := by omega
          exact .inr ⟨c', y', h1, h6⟩
theorem before (hc : Closed l f) : ∀ (c : Nat) (x : Oper × PO), l[c]? = some x → x.2.k = 2 → (∀ d ∈ deps x.1, f d = true) → ∀ c' y, l[c']? = some y → c' < c → y.2.k = 2 → f c' = true := by
  intro c
  induction c using Nat.strongRecOn with
  | _ c ih =>
    intro x hx hk hd c' y hy hlt hky
    have h1 := F.chain hx hk hy hlt hky
    have h2 := F.lole hx
    rcases lo_spec F hc c x hx hd with h3 | ⟨c0, z, h3, h4, h5, h6⟩
    · omega
    · by_cases hcc : c' = c0
      · subst hcc; exact h6
      · exact ih c0 (by omega) z h4 h5 (hc c0 z h4 h6) c' y hy (by omega) hky
end plan
noncomputable def recE (rs : List Rec) (ef : E) (i : Nat) : E := match rs[i]? with | some r => r.e | none => ef
noncomputable def recS (rs : List Rec) (sf : S) (i : Nat) : S := match rs[i]? with | some r => r.s | none => sf
noncomputable def eLg (m : Fm) (L : Nat → Bool) : List Rec → Nat → E → E
  | [], _, e => e
  | r :: rs, i, e => eLg m L rs (i + 1) (if L i then putT m e r.o.dst r.t else e)
noncomputable def alsOf (rs : List Rec) : List Rec := rs.filter fun r => r.ob.isSome
theorem alsOf_pos {r : Rec} {rs : List Rec} (h : r.ob.isSome = true) : alsOf (r :: rs) = r :: alsOf rs := by unfold alsOf; simp [h]
theorem alsOf_neg {r : Rec} {rs : List Rec} (h : r.ob = none) : alsOf (r :: rs) = alsOf rs := by unfold alsOf; simp [h]
structure RecF (p : Pr) (m : Fm) (cf : CallRun) (all : List Oper) (x : Oper × PO) (i : Nat) (al : List Rec) (r : Rec) (s' : S) : Prop where
  o : r.o = x.1
  po : r.po = x.2
  fit : ∀ q, r.o.dst = some q → q < m.n
  want : wants m all r.o.guard r.e = some r.w
  skip : r.w = false → r.t = undefT ∧ s' = r.s
  run : r.w = true → r.po.k ≠ 3 → kindRun p m cf r.o r.po.k r.e r.s (act al i r.s) = .ok (r.t, s')
  alc : r.w = true → r.po.k = 3 → ∃ ob, r.ob = some ob ∧ allocRun p m r.o r.e r.b = some (r.t, ob) ∧ s' = r.s
  none : (r.w = false ∨ r.po.k ≠ 3) → r.ob = none
structure Tr (p : Pr) (m : Fm) (cf : CallRun) (all : List Oper) (i0 : Nat) (al : List Rec) (nb : Nat) (l : List (Oper × PO)) (e : E) (s : S) (rs : List Rec) (ef : E) (sf : S) : Prop where
  len : rs.length = l.length
  zero : recS rs sf 0 = s
  get : ∀ i x, l[i]? = some x → ∃ r, rs[i]? = some r ∧ RecF p m cf all x (i0 + i) ((alsOf (rs.take i)).reverse ++ al) r (recS rs sf (i + 1))
  num : ∀ i r, rs[i]? = some r → r.ob.isSome = true → r.b = nb + (alsOf (rs.take i)).length
  cnt : (alsOf rs).length ≤ count3 l
  env : ∀ i b, i ≤ rs.length → recE rs ef i = eLg m (fun j => decide (j < b + i)) rs b e
theorem eLg_none (L : Nat → Bool) : ∀ (rs : List Rec) (b : Nat) (e : E), (∀ j, b ≤ j → L j = false) → eLg m L rs b e = e
  | [], b, e, _ => rfl
  | r :: rs, b, e, h => by
    simp only [eLg, h b (Nat.le_refl _), Bool.false_eq_true, if_false]
    exact eLg_none L rs (b + 1) e fun j hj => h j (by omega)
theorem Tr.cons {all : List Oper} {i0 nb nb' : Nat} {al al' : List Rec} {l : List (Oper × PO)} {x : Oper × PO} {rs : List Rec} {ef : E} {sf s1 : S} {r : Rec} (he : r.e = e) (hs : r.s = s) (H : Tr p m cf all (i0 + 1) al' nb' l (putT m e r.o.dst r.t) s1 rs ef sf) (hr : RecF p m cf all x i0 al r s1)
    (hal : (r.ob.isSome = true ∧ al' = r :: al ∧ nb' = nb + 1 ∧ r.b = nb ∧ x.2.k = 3) ∨ (r.ob = none ∧ al' = al ∧ nb' = nb)) : Tr p m cf all i0 al nb (x :: l) e s (r :: rs) ef sf := by
  have hrev : ∀ i, (alsOf ((r :: rs).take (i + 1))).reverse ++ al = (alsOf (rs.take i)).reverse ++ al' := by
    intro i
    rw [List.take_succ_cons]
    rcases hal with ⟨h1, h2, _⟩ | ⟨h1, h2, _⟩
    · rw [h2, alsOf_pos h1, List.reverse_cons, List.append_assoc]; rfl
    · rw [h2, alsOf_neg h1]
  refine ⟨by simp [H.len], by simp [recS, hs], ?_, ?_, ?_, ?_⟩
  · intro i y hy
    cases i with
    | zero =>
      simp at hy; subst hy
      refine ⟨r, rfl, ?_⟩
      have : recS (r :: rs) sf 1 = s1 := by rw [← H.zero]; simp [recS]
      rw [this]; simpa [alsOf] using hr
    | succ i =>
      obtain ⟨r', h1, h2⟩ := H.get i y (by simpa using hy)
      refine ⟨r', by simpa using h1, ?_⟩
      have : recS (r :: rs) sf (i + 1 + 1) = recS rs sf (i + 1) := by simp [recS]
      rw [this, hrev, show i0 + (i + 1) = i0 + 1 + i by omega]; exact h2
  · intro i r' hi hob
    cases i with
    | zero =>
      simp at hi; subst hi
      rcases hal with ⟨_, _, _, h4, _⟩ | ⟨h1, _⟩
      · simp [alsOf, h4]
      · rw [h1] at hob; cases hob
    | succ i =>
      have h1 := H.num i r' (by simpa using hi) hob
      rw [h1, List.take_succ_cons]
      rcases hal with ⟨g1, _, g3, _⟩ | ⟨g1, _, g3⟩
      · rw [alsOf_pos g1, g3, List.length_cons]; omega
      · rw [alsOf_neg g1, g3]
  · have h1 := H.cnt
    unfold count3
    rcases hal with ⟨g1, _, _, _, g5⟩ | ⟨g1, _⟩
    · rw [alsOf_pos g1, g5]
      have : Nat.beq 3 3 = true := rfl
      rw [this]
      simp only [List.length_cons]
      omega
    · rw [alsOf_neg g1]
      split
      · omega
      · exact h1
  · intro i b hi
    cases i with
    | zero =>
      rw [eLg_none]
      · simp [recE, he]
      · intro j hj; simp; omega
    | succ i =>
      have h1 := H.env i (b + 1) (by simpa using hi)
      have h2 : recE (r :: rs) ef (i + 1) = recE rs ef i := by simp [recE]
      rw [h2, h1]
      simp only [eLg]
      rw [if_pos (by simp)]
      congr 1
      funext j
      congr 1
      simp; omega
noncomputable def Made (P : Program) (ι : Io) (h : Heap) (r : Rec) : Prop := ∃ ob x obr, r.ob = some ob ∧ ι r.b = some x ∧ h[x.r]? = some obr ∧ OR P ι x ob obr ∧ ∀ c y, ι c = some y → y.r = x.r → c = r.b
end draw
end Go.Run
namespace Go.Run
open Go Go.Eng
section draw2
variable {P : Program} {p : Pr} {ι : Io} {s s' : S} {h : Heap} {m : Fm} {e e' : E} {er : Env} {ty : TypeId} {t : T} {K : Value → Heap → Prop} {cf : CallRun}
noncomputable def lis (listed : Array Bool) (j : Nat) : Bool := listed.getD j false
theorem alsOf_succ {rs : List Rec} {i : Nat} {r : Rec} (h : rs[i]? = some r) (ho : r.ob.isSome = true) : (alsOf (rs.take (i + 1))).length = (alsOf (rs.take i)).length + 1 := by
  unfold alsOf
  rw [List.take_add_one, h, List.filter_append]
  simp [ho]
theorem alsOf_mono {rs : List Rec} {i j : Nat} (h : i ≤ j) : (alsOf (rs.take i)).length ≤ (alsOf (rs.take j)).length := by
  unfold alsOf
  have : rs.take i = (rs.take j).take i := by rw [List.take_take, Nat.min_eq_left h]
  rw [this]
  exact ((List.take_sublist i (rs.take j)).filter _).length_le
section num
variable {all : List Oper} {L : List (Oper × PO)} {nb : Nat} {rs : List Rec} {ef : E} {sf : S}
theorem Tr.blt (T : Tr p m cf all 0 [] nb L e s rs ef sf) {i : Nat} {r : Rec} (hi : rs[i]? = some r) (ho : r.ob.isSome = true) : nb ≤ r.b ∧ r.b < nb + count3 L := by
  have h1 := T.num i r hi ho
  have h3 := alsOf_succ hi ho
  have hl := (List.getElem?_eq_some_iff.1 hi).1
  have h4 := alsOf_mono (rs := rs) (show i + 1 ≤ rs.length from hl)
  rw [List.take_length] at h4
  have h5 := T.cnt
  omega
end num
theorem Ste.add {ι1 : Io} {s1 : S} {h1 : Heap} (H : Ste ι s h ι1 s1 h1) {b : Nat} (hn : ι1 b = none) (hb : s.nx ≤ b) {obr : Obj} : Ste ι s h (ι1.put b ⟨h1.size, 0, #[], 0, 0⟩) s1 (h1.push obr) := by
  have hsub := Io.put_sub (x := ⟨h1.size, 0, #[], 0, 0⟩) hn
  refine ⟨fun c x hc => hsub _ _ (H.sub _ _ hc), H.nx, H.low, by rw [Array.size_push]; have := H.size; omega, H.dead, fun c x hc => ?_, H.am, fun r hr hh => ?_⟩
  · unfold Io.put at hc
    split at hc
    · rename_i hcb
      cases hc; subst hcb
      exact .inr ⟨hb, .inl H.size⟩
    · exact H.grow c x hc
  · rw [Array.getElem?_push, if_neg (by have := H.size; omega)]
    exact H.old r hr hh
noncomputable def Fl (P : Program) (rs : List Rec) (f : Nat → Bool) (ι : Io) (s : S) (h : Heap) (q : Nat) : Prop :=
  ∀ i r, rs[i]? = some r → r.ob.isSome = true → q ≤ r.po.hi → s.at r.b = none ∧ r.b < s.nx ∧ (f i = true → Made P ι h r) ∧ (f i = false → ι r.b = none)
structure InvD (P : Program) (m : Fm) (L : List (Oper × PO)) (rs : List Rec) (e : E) (sf : S) (ι : Io) (s : S) (h : Heap) (listed : Array Bool) (er : Env) (h' : Heap) : Prop where
  size : listed.size = L.length
  closed : Closed L (lis listed)
  st : ∃ ι' q, q ≤ L.length ∧ (∀ y, L[q]? = some y → y.2.k = 2 ∧ lis listed q = false) ∧ (∀ j y, j < q → L[j]? = some y → y.2.k = 2 → lis listed j = true) ∧
    Ste ι s h ι' (recS rs sf q) h' ∧ Sim P ι' (recS rs sf q) h' ∧ RE ι' m (eLg m (lis listed) rs 0 e) er ∧ Fl P rs (lis listed) ι' (recS rs sf q) h' q
section main
variable {ops : Array Oper} {pl : List PO} {rs : List Rec} {ef : E} {sf : S}
end main
end draw2
end Go.Run
namespace Go.Run
open Go Go.Eng
section draw3
variable {P : Program} {p : Pr} {ι : Io} {s s' : S} {h : Heap} {m : Fm} {e e' : E} {er : Env} {ty : TypeId} {t : T} {K : Value → Heap → Prop} {cf : CallRun}
variable {ops : Array Oper} {pl : List PO} {rs : List Rec} {ef : E} {sf : S}
noncomputable def exR : Ex → Exit | .normal => .normal | .exit i => .exit i | .goto i => .goto i | .ret => .ret
noncomputable def DL (ι : Io) : List Nat → List Deferred → Prop
  | [], l => l = []
  | b :: ds, l => ∃ y r, ι b = some y ∧ l = { target := .collected y.r, args := #[] } :: r ∧ DL ι ds r
theorem DL.mono {ι ι' : Io} (hs : Sub ι ι') : ∀ {d : List Nat} {l : List Deferred}, DL ι d l → DL ι' d l
  | [], l, h => h
  | b :: ds, l, ⟨y, r, h1, h2, h3⟩ => ⟨y, r, hs _ _ h1, h2, DL.mono hs h3⟩
noncomputable def CP (P : Program) (ι : Io) (s : S) (h : Heap) (m : Fm) (o : Out) : Cont := fun x er dr h' => x = exR o.x ∧ ∃ ι', Ste ι s h ι' o.s h' ∧ Sim P ι' o.s h' ∧ RE ι' m o.e er ∧ DL ι' o.d dr
noncomputable def RO (ι : Io) : Option Nat → Option Nat → Prop
  | none, l => l = none
  | some b, l => ∃ y, ι b = some y ∧ l = some y.r
theorem RO.mono {ι ι' : Io} (hs : Sub ι ι') : ∀ {b : Option Nat} {l : Option Nat}, RO ι b l → RO ι' b l
  | none, l, h => h
  | some b, l, ⟨y, h1, h2⟩ => ⟨y, hs _ _ h1, h2⟩
end draw3
end Go.Run
namespace Go.Run
open Go Go.Eng
section steps
variable {P : Program} {p : Pr} {ι : Io} {s s' : S} {h : Heap} {m : Fm} {e e' : E} {er : Env} {self : CodeRun} {ro : Option Nat} {d : List Nat} {dr : List Deferred} {l : Option Nat} {o : Out}
theorem CP.trans {ι1 : Io} {s1 : S} {h1 : Heap} (H : Sim P ι s h) (q1 : Ste ι s h ι1 s1 h1) {x : Exit} {er' : Env} {dr' : List Deferred} {h2 : Heap} (c : CP P ι1 s1 h1 m o x er' dr' h2) : CP P ι s h m o x er' dr' h2 := by
  obtain ⟨hx, ι', a1, a2, a3, a4⟩ := c
  exact ⟨hx, ι', q1.trans H.fresh a1, a2, a3, a4⟩
section scope
variable {b : Frame} {a : Act} {k : List Item} {cs : List Frame} {w : World}
end scope
end steps
end Go.Run
namespace Go.Run
open Go Go.Eng
section calls
variable {P : Program} {p : Pr} {ι : Io} {s s' : S} {h : Heap} {m : Fm} {e e' : E} {er : Env} {self : CodeRun} {ro : Option Nat} {d : List Nat} {dr : List Deferred} {l : Option Nat} {o : Out} {t : T}
noncomputable def LibOk (P : Program) (p : Pr) : Prop := ∀ g vs s t s', p.lib g ≠ 0 → libT s (p.lib g) vs = some (t, s') → ∀ ι us h, VL ι vs us → Sim P ι s h → CallsH P g us.toArray h (Post P ι s h t s')
end calls
end Go.Run
namespace Go.Run
open Go Go.Eng
section yields
variable {P : Program} {p : Pr} {ι : Io} {s s' : S} {h : Heap} {m : Fm} {e e' : E} {er : Env} {self : CodeRun} {ro : Option Nat} {d : List Nat} {dr : List Deferred} {l : Option Nat} {o : Out} {t : T}
end yields
end Go.Run
namespace Go.Run
open Go Go.Eng
section mapl
variable {P : Program} {p : Pr} {ι : Io} {s s' : S} {h : Heap} {m : Fm} {e e' : E} {er : Env} {self : CodeRun} {ro : Option Nat} {d : List Nat} {dr : List Deferred} {l : Option Nat} {o : Out} {t : T}
noncomputable def keepE (f : Nat → Bool) : List Ent → Nat → List Ent
  | [], _ => []
  | x :: r, j => if f j then keepE f r (j + 1) else x :: keepE f r (j + 1)
noncomputable def Gh (ι ι' : Io) : Prop := ∀ b x, ι b = some x → ∃ y, ι' b = some y ∧ y.r = x.r ∧ y.cap = x.cap
mutual
theorem VR.gh {ι ι' : Io} (hs : Gh ι ι') : ∀ (t : T) {v : Value}, VR ι t v → VR ι' t v
  | .bool b, v, h => by simpa only [VR] using h
  | .int k n, v, h => by simpa only [VR] using h
  | .str s, v, h => by simpa only [VR] using h
  | .nptr, v, h => by simpa only [VR] using h
  | .ptr b o, v, h => by simp only [VR] at *; obtain ⟨x, h1, h2⟩ := h; obtain ⟨y, g1, g2, _⟩ := hs _ _ h1; exact ⟨y, g1, by rw [g2]; exact h2⟩
  | .nslice, v, h => by simpa only [VR] using h
  | .slice b o n c, v, h => by simp only [VR] at *; obtain ⟨x, h1, h2⟩ := h; obtain ⟨y, g1, g2, _⟩ := hs _ _ h1; exact ⟨y, g1, by rw [g2]; exact h2⟩
  | .own b n, v, h => by simp only [VR] at *; obtain ⟨x, h1, h2⟩ := h; obtain ⟨y, g1, g2, g3⟩ := hs _ _ h1; exact ⟨y, g1, by rw [g2, g3]; exact h2⟩
  | .sub b o n, v, h => by simp only [VR] at *; obtain ⟨x, c, h1, h2⟩ := h; obtain ⟨y, g1, g2, _⟩ := hs _ _ h1; exact ⟨y, c, g1, by rw [g2]; exact h2⟩
  | .empty, v, h => by simpa only [VR] using h
  | .nmap, v, h => by simpa only [VR] using h
  | .map b, v, h => by simp only [VR] at *; obtain ⟨x, h1, h2⟩ := h; obtain ⟨y, g1, g2, _⟩ := hs _ _ h1; exact ⟨y, g1, by rw [g2]; exact h2⟩
  | .func f a b, v, h => by
    simp only [VR] at *
    split at h
    · obtain ⟨h1, h2, x, h3, h4⟩ := h; obtain ⟨y, g1, g2, _⟩ := hs _ _ h3; exact ⟨h1, h2, y, g1, by rw [g2]; exact h4⟩
    · obtain ⟨c, d, h1, h2, h3⟩ := h; exact ⟨c, d, h1, VL.gh hs a h2, VL.gh hs b h3⟩
  | .nfunc, v, h => by simpa only [VR] using h
  | .niface, v, h => by simpa only [VR] using h
  | .agg cs, v, h => by simp only [VR] at *; obtain ⟨vs, h1, h2⟩ := h; exact ⟨vs, h1, VL.gh hs cs h2⟩
  | .tup cs, v, h => by simp only [VR] at *; obtain ⟨vs, h1, h2⟩ := h; exact ⟨vs, h1, VL.gh hs cs h2⟩
  | .any, v, h => by simp only [VR]
theorem VL.gh {ι ι' : Io} (hs : Gh ι ι') : ∀ (ts : List T) {vs : List Value}, VL ι ts vs → VL ι' ts vs
  | [], vs, h => by simpa only [VL] using h
  | c :: cs, vs, h => by
    simp only [VL] at *
    obtain ⟨v, rest, h1, h2, h3⟩ := h
    exact ⟨v, rest, h1, VR.gh hs c h2, VL.gh hs cs h3⟩
end
mutual
/-- What a value stood for is known: then what it stands for later is known there. -/
theorem VR.back {ι ι' : Io} (hs : Gh ι ι') : ∀ (t : T) {v0 v : Value}, VR ι t v0 → VR ι' t v → VR ι t v
  | .bool b, v0, v, h0, h => by simpa only [VR] using h
  | .int k n, v0, v, h0, h => by simpa only [VR] using h
  | .str s, v0, v, h0, h => by simpa only [VR] using h
  | .nptr, v0, v, h0, h => by simpa only [VR] using h
  | .ptr b o, v0, v, h0, h => by
    simp only [VR] at *; obtain ⟨x, h1, _⟩ := h0; obtain ⟨x', h3, h4⟩ := h; obtain ⟨y, g1, g2, _⟩ := hs _ _ h1; rw [g1] at h3; cases h3; exact ⟨x, h1, by rw [← g2]; exact h4⟩
  | .nslice, v0, v, h0, h => by simpa only [VR] using h
  | .slice b o n c, v0, v, h0, h => by
    simp only [VR] at *; obtain ⟨x, h1, _⟩ := h0; obtain ⟨x', h3, h4⟩ := h; obtain ⟨y, g1, g2, _⟩ := hs _ _ h1; rw [g1] at h3; cases h3; exact ⟨x, h1, by rw [← g2]; exact h4⟩
  | .own b n, v0, v, h0, h => by
    simp only [VR] at *; obtain ⟨x, h1, _⟩ := h0; obtain ⟨x', h3, h4⟩ := h; obtain ⟨y, g1, g2, g3⟩ := hs _ _ h1; rw [g1] at h3; cases h3; exact ⟨x, h1, by rw [← g2, ← g3]; exact h4⟩
  | .sub b o n, v0, v, h0, h => by
    simp only [VR] at *; obtain ⟨x, c, h1, _⟩ := h0; obtain ⟨x', c', h3, h4⟩ := h; obtain ⟨y, g1, g2, _⟩ := hs _ _ h1; rw [g1] at h3; cases h3; exact ⟨x, c', h1, by rw [← g2]; exact h4⟩
  | .empty, v0, v, h0, h => by simpa only [VR] using h
  | .nmap, v0, v, h0, h => by simpa only [VR] using h
  | .map b, v0, v, h0, h => by
    simp only [VR] at *; obtain ⟨x, h1, _⟩ := h0; obtain ⟨x', h3, h4⟩ := h; obtain ⟨y, g1, g2, _⟩ := hs _ _ h1; rw [g1] at h3; cases h3; exact ⟨x, h1, by rw [← g2]; exact h4⟩
  | .func f a b, v0, v, h0, h => by
    cases f <;> simp only [VR] at h0 h ⊢ <;> first
      | (obtain ⟨h1, h2, x', h3, h4⟩ := h; obtain ⟨_, _, x, h5, _⟩ := h0; obtain ⟨y, g1, g2, _⟩ := hs _ _ h5; rw [g1] at h3; cases h3; exact ⟨h1, h2, x, h5, by rw [← g2]; exact h4⟩)
      | (obtain ⟨c, d, h1, h2, h3⟩ := h; obtain ⟨c0, d0, _, h5, h6⟩ := h0; exact ⟨c, d, h1, VL.back hs a h5 h2, VL.back hs b h6 h3⟩)
  | .nfunc, v0, v, h0, h => by simpa only [VR] using h
  | .niface, v0, v, h0, h => by simpa only [VR] using h
  | .agg cs, v0, v, h0, h => by simp only [VR] at *; obtain ⟨vs, h1, h2⟩ := h; obtain ⟨vs0, _, h4⟩ := h0; exact ⟨vs, h1, VL.back hs cs h4 h2⟩
  | .tup cs, v0, v, h0, h => by simp only [VR] at *; obtain ⟨vs, h1, h2⟩ := h; obtain ⟨vs0, _, h4⟩ := h0; exact ⟨vs, h1, VL.back hs cs h4 h2⟩
  | .any, v0, v, h0, h => by simp only [VR]
theorem VL.back {ι ι' : Io} (hs : Gh ι ι') : ∀ (ts : List T) {vs0 vs : List Value}, VL ι ts vs0 → VL ι' ts vs → VL ι ts vs
  | [], vs0, vs, h0, h => by simpa only [VL] using h
  | c :: cs, vs0, vs, h0, h => by
    simp only [VL] at *
    obtain ⟨v0, rest0, _, h2, h3⟩ := h0
    obtain ⟨v, rest, h4, h5, h6⟩ := h
    exact ⟨v, rest, h4, VR.back hs c h2 h5, VL.back hs cs h3 h6⟩
end
theorem EL.gh {ι ι' : Io} (hs : Gh ι ι') : ∀ {xs : List Ent} {l : List MapEntry}, EL ι xs l → EL ι' xs l
  | [], l, h => h
  | x :: xs, l, ⟨e, r, h1, h2, h3⟩ => ⟨e, r, h1, ⟨VR.gh hs _ h2.1, VR.gh hs _ h2.2.1, h2.2.2⟩, EL.gh hs h3⟩
theorem RE.gh {ι ι' : Io} (hs : Gh ι ι') (re : RE ι m e er) : RE ι' m e er := ⟨re.len, re.fit, fun i hi => VR.gh hs _ (re.get i hi)⟩
theorem DL.gh {ι ι' : Io} (hs : Gh ι ι') : ∀ {d : List Nat} {l : List Deferred}, DL ι d l → DL ι' d l
  | [], l, h => h
  | b :: ds, l, ⟨y, r, h1, h2, h3⟩ => by
    obtain ⟨y', g1, g2, _⟩ := hs _ _ h1
    exact ⟨y', r, g1, by rw [g2]; exact h2, DL.gh hs h3⟩
theorem RO.gh {ι ι' : Io} (hs : Gh ι ι') : ∀ {b : Option Nat} {l : Option Nat}, RO ι b l → RO ι' b l
  | none, l, h => h
  | some b, l, ⟨y, h1, h2⟩ => by
    obtain ⟨y', g1, g2, _⟩ := hs _ _ h1
    exact ⟨y', g1, by rw [g2]; exact h2⟩
theorem OR.gh {ι ι' : Io} (hs : Gh ι ι') {x : Inf} : ∀ {o : VO} {ob : Obj}, amO (some o) = false → OR P ι x o ob → OR P ι' x o ob
  | .row cs ct tail, ob, _, ⟨cur, h1, h2, h3, h4⟩ => ⟨cur, h1, h2, VL.gh hs _ h3, h4⟩
  | .ro cs ct, ob, _, ⟨cur, fr, h1, h2, h3⟩ => ⟨cur, fr, h1, h2, VL.gh hs _ h3⟩
  | .map es clock, ob, _, ⟨ents, h1, h2, h3⟩ => ⟨ents, h1, EL.gh hs h2, h3⟩
  | .siter s pos, ob, _, h => h
  | .miter mp since seen last, ob, _, ⟨y, h1, h2⟩ => by
    obtain ⟨y', g1, g2, _⟩ := hs _ _ h1
    exact ⟨y', g1, by rw [g2]; exact h2⟩
  | .loop st pend dp n tm pa asg bd df, ob, _, ⟨fn, tr, y, h1, h2, h3⟩ => by
    obtain ⟨y', g1, g2, _⟩ := hs _ _ h1
    exact ⟨fn, tr, y', g1, by rw [g2]; exact h2, h3.gh hs⟩
  | .defs true, ob, _, h => h
  | .defs false, ob, _, h => h
  | .amap es j del, ob, ha, _ => by simp [amO] at ha
  | .pick mp, ob, ha, _ => by simp [amO] at ha
structure MI (P : Program) (ι : Io) (h0 : Heap) (m : Fm) (es : List Ent) (clock since : Nat) (ym yr : Inf) (D Y : Nat → Bool) (a : Option Tmp) (x0 : Bool) (eb : E) (V : Nat → Bool) (er : Env) (h : Heap) : Prop where
  size : h0.size ≤ h.size
  old : ∀ q, q < h0.size → q ≠ ym.r → q ≠ yr.r → h[q]? = h0[q]?
  it : ∃ seen lastv, h[yr.r]? = some (.mapIter (some ym.r) since seen lastv) ∧ since ≤ lastv ∧ ∀ j x, es[j]? = some x → seen.contains x.2.2 = V j
  mp : ∃ ents, h[ym.r]? = some (.map ents clock) ∧ EL ι (keepE (fun j => V j && D j) es 0) ents.toList
  re : ∃ c : Bool, (c = true ↔ ∃ j, j < es.length ∧ V j = true ∧ Y j = true) ∧ RE ι m (setAcc m a (x0 || c) eb) er
theorem Born.sub {es es' : List Ent} {c : Nat} (hb : Born es c) (hs : es'.Sublist es) : Born es' c := ⟨List.Pairwise.sublist (hs.map _) hb.1, fun x hx => hb.2 x (hs.subset hx)⟩
end mapl
end Go.Run
namespace Go.Run
open Go Go.Eng
section all
variable {P : Program} {p : Pr} {self : CodeRun}
theorem Sim.zero (h : Heap) : Sim P (fun _ => none) s0 h := by
  refine ⟨fun b x hx => (by cases hx), fun b c x y _ _ hx => (by cases hx), fun b o hb => ?_⟩
  simp [s0, S.at, En.get_leaf, ite_eq] at hb
noncomputable def TyQ (P : Program) (t : Nat) (o : Option TI) : Prop := ∀ ti, o = some ti → mkTI P t = some { ti with fl := [] } ∧ (ti.fl = [] ∨ flT P t = ti.fl)
noncomputable def FnQ (P : Program) (f : Nat) (o : Option FI) : Prop := ∀ fi, o = some fi → mkFI P f = some fi
noncomputable def AllT {α : Type} (Q : Nat → Option α → Prop) : Nat → Nat → Nat → En (Option α) → Prop
  | 0, b, _, t => Q b t.lf
  | _ + 1, _, _, .leaf none => True
  | _ + 1, _, _, .leaf (some _) => False
  | d + 1, b, k, .node l r => AllT Q d b (k + k) l ∧ AllT Q d (b + k) (k + k) r
theorem AllT.get {α : Type} {Q : Nat → Option α → Prop} (hn : ∀ b, Q b none) : ∀ {d b k : Nat} {tr : En (Option α)}, AllT Q d b k tr → ∀ t, t < 2 ^ d → Q (b + k * t) (En.get (Pa.of d t) tr)
  | 0, b, k, tr, h, t, ht => by
    have : t = 0 := by simp at ht; omega
    subst this
    exact h
  | d + 1, b, k, .leaf none, h, t, ht => by rw [En.get_leaf]; exact hn _
  | d + 1, b, k, .leaf (some v), h, t, ht => h.elim
  | d + 1, b, k, .node l r, h, t, ht => by
    rw [Nat.pow_succ] at ht
    rw [Pa.of_succ]
    split
    · rename_i h0
      rw [En.get_o]
      have := AllT.get hn h.1 (t / 2) (by omega)
      have e1 : b + (k + k) * (t / 2) = b + k * t := by
        obtain ⟨q, rfl⟩ : ∃ q, t = 2 * q := ⟨t / 2, by omega⟩
        rw [Nat.mul_div_cancel_left _ (by omega), ← Nat.two_mul, Nat.mul_comm 2 k, Nat.mul_assoc]
      rw [e1] at this
      exact this
    · rename_i h0
      rw [En.get_i]
      have := AllT.get hn h.2 (t / 2) (by omega)
      have e1 : b + k + (k + k) * (t / 2) = b + k * t := by
        obtain ⟨q, rfl⟩ : ∃ q, t = 2 * q + 1 := ⟨t / 2, by omega⟩
        have : (2 * q + 1) / 2 = q := by omega
        rw [this, ← Nat.two_mul, Nat.mul_comm 2 k, Nat.mul_assoc, Nat.mul_add, Nat.mul_one]
        omega
      rw [e1] at this
      exact this
theorem ok_of {ty : En (Option TI)} {fn : En (Option FI)} {lib : Nat → Nat} {d1 d2 n1 n2 : Nat} (h1 : AllT (TyQ P) d1 0 1 ty) (h2 : AllT (FnQ P) d2 0 1 fn) (hn1 : n1 = 2 ^ d1) (hn2 : n2 = 2 ^ d2) (hm : P.follows .mixedOrders = true) {ext : Nat → X} (he : ∀ g, ExtQ P g (ext g)) :
    Ok P ⟨fun t => ite (Nat.ble (Nat.succ t) n1) (En.get (Pa.of d1 t) ty) none, fun f => ite (Nat.ble (Nat.succ f) n2) (En.get (Pa.of d2 f) fn) none, lib, ext⟩ := by
  refine ⟨he, fun t ti ht => ?_, fun f fi hf => ?_, hm⟩
  · simp only [ite_eq] at ht
    split at ht
    · rename_i hlt
      have hlt := ble_iff.1 hlt
      have := AllT.get (Q := TyQ P) (fun b ti h => by cases h) h1 t (by omega)
      rw [Nat.zero_add, Nat.one_mul] at this
      exact this ti ht
    · cases ht
  · simp only [ite_eq] at hf
    split at hf
    · rename_i hlt
      have hlt := ble_iff.1 hlt
      have := AllT.get (Q := FnQ P) (fun b ti h => by cases h) h2 f (by omega)
      rw [Nat.zero_add, Nat.one_mul] at this
      exact this fi hf
    · cases hf
theorem lib_none (hl : ∀ g, p.lib g = 0) : LibOk P p := fun g _ _ _ _ hg => absurd (hl g) hg
end all
end Go.Run
namespace Go.Run
open Go Go.Eng
noncomputable def runL (self : CodeRun) (m : Fm) (ro : Option Nat) : List Code → E → List Nat → S → Res Out
  | [], e, d, s => .ok ⟨.normal, e, d, s⟩
  | c :: cs, e, d, s => match self m ro c e d s with
    | .ok ⟨.normal, e, d, s⟩ => runL self m ro cs e d s
    | r => r
noncomputable def keepFr (m : Fm) : List Nat → E → E → E
  | [], _, acc => acc
  | t :: ks, e, acc => ite (Nat.ble (Nat.succ t) m.n) (force (seeE m e t) fun v => En.setK (Pa.of m.dp t) v acc fun acc => keepFr m ks e acc) (keepFr m ks e acc)
noncomputable def keepV : List Nat → S → En (Option VO) → En (Option VO)
  | [], _, V => V
  | b :: bs, s, V => ite (Nat.ble b 16383) (En.setK (Pa.of 14 b) (s.at b) V fun V => keepV bs s V) (keepV bs s V)
noncomputable def fromE (m : Fm) : List (Nat × T) → E → E
  | [], acc => acc
  | x :: ks, acc => En.setK (Pa.of m.dp x.1) x.2 acc fun acc => fromE m ks acc
noncomputable def seg (p : Pr) (n : Nat) (m : Fm) (cs : List Code) (ks bs : List Nat) (e : E) (d : List Nat) (s : S) : Option (E × List Nat × S) :=
  match runL (runC p n) m none cs e d s with
  | .ok ⟨.normal, e, d, s⟩ => some (keepFr m ks e (.leaf .any), d, ⟨keepV bs s (.leaf none), s.nx, s.low⟩)
  | _ => none
noncomputable def isEnd : Ex → Bool | .normal => true | .ret => true | _ => false
noncomputable def isTrue : Res (T × S) → Bool | .ok (.bool true, _) => true | _ => false
noncomputable def lastB (p : Pr) (n : Nat) (m : Fm) (rs : List ResultVar) (cs : List Code) (e : E) (d : List Nat) (s : S) : Bool :=
  match runL (runC p n) m none cs e d s with
  | .ok ⟨x, e, d, s⟩ => isEnd x && isTrue (endFn p m rs e d s)
  | _ => false
inductive Chain (p : Pr) (n : Nat) (m : Fm) (rs : List ResultVar) : List Code → E → List Nat → S → Prop
  | last {cs e d s} : lastB p n m rs cs e d s = true → Chain p n m rs cs e d s
  | next {cs e d s e2 d2 s2} (k : Nat) (ks bs : List Nat) : seg p n m (cs.take k) ks bs e d s = some (e2, d2, s2) → Chain p n m rs (cs.drop k) e2 d2 s2 → Chain p n m rs cs e d s
noncomputable def nxK (n : Env → List Deferred → Heap → Prop) (k : Cont) : Cont := fun x e d h => match x with | .normal => n e d h | x => k x e d h
section pieces
variable {P : Program} {p : Pr} {ι : Io} {s s' s2 : S} {h : Heap} {m : Fm} {e e' : E} {er : Env} {self : CodeRun} {ro : Option Nat} {d : List Nat} {dr : List Deferred} {l : Option Nat} {o : Out}
end pieces
end Go.Run
namespace Go.Run
open Go Go.Eng
section rows
variable {P : Program}
theorem kept_of {W W' : World} (x : Ext W.heap W'.heap) (r : Eng.Rest W W') (may : MemPlace → Prop) : W.keptBut W' may := by
  refine ⟨r.os, r.output, fun i hi => ?_⟩
  rw [x.old i hi]
  cases W.heap[i]? with
  | none => rfl
  | some o => cases o <;> first | exact ⟨rfl, rfl, rfl, fun _ _ => rfl⟩ | exact .inr ⟨rfl, rfl⟩ | rfl
theorem post_kept {H : Type} {enc : TypeId × Value → H} {f : Func} {s : ChangeSpec} {apart fresh handsOn : Bool} {W W' : World} {args : Array Value} {v : Value} {ds gs : List (DataW H)} {before pa pv : List MemPlace}
    (hW : DataW.Whole enc P f.params.toList s.vars apart W args.toList ds gs before)
    (hres : ∀ (b : Nat) (sp : Nat → Bool) (hd : Bool), DataW.TrodAll enc P W' b sp hd f.resultTypes.toList (v.resultList f.resultTypes.size) (s.fn H (ds ++ gs)).results [])
    (hargs : ∀ sp : Nat → Bool, (∀ p ∈ before, sp p.block = true) → DataW.TrodAll enc P W' 0 sp true f.params.toList args.toList (s.fn H (ds ++ gs)).args pa)
    (hvars : ∀ sp : Nat → Bool, (∀ p ∈ before, sp p.block = true) → DataW.TrodVars enc P W' sp s.vars (s.fn H (ds ++ gs)).vars pv)
    (hps : before = pa ++ pv) (hk : ∀ may, W.keptBut W' may) : s.post enc P f apart fresh handsOn false W args v W' := by
  have hold : ∀ p ∈ before, (fun b => decide (b < W.heap.size)) p.block = true := fun p hp => by simpa using hW.lt p hp
  exact ⟨ds, gs, before, [], pa, pv, hW, hres _ _ _, hargs _ hold, hvars _ hold, hk _, fun h => (by cases h)⟩
end rows
end Go.Run
end
section
namespace Go.Proofs.YtafemfjhflfdeaaDoor.Pt
open Go Go.Proofs Go.Run
set_option maxRecDepth 100000
theorem y0 : mkTI Tryd.prog 0 = some ⟨1, 0, (.tup []), .other, []⟩ := by kernel_rfl
theorem q0 : TyQ Tryd.prog 0 (some ⟨1, 0, (.tup []), .other, []⟩) := fun ti h => by cases h; exact ⟨y0, .inl rfl⟩
theorem y1 : mkTI Tryd.prog 1 = some ⟨1, 8, .nfunc, .func, []⟩ := by kernel_rfl
theorem q1 : TyQ Tryd.prog 1 (some ⟨1, 8, .nfunc, .func, []⟩) := fun ti h => by cases h; exact ⟨y1, .inl rfl⟩
theorem y2 : mkTI Tryd.prog 2 = some ⟨1, 8, (.int .i64 0), (.int .i64), []⟩ := by kernel_rfl
theorem q2 : TyQ Tryd.prog 2 (some ⟨1, 8, (.int .i64 0), (.int .i64), []⟩) := fun ti h => by cases h; exact ⟨y2, .inl rfl⟩
theorem y3 : mkTI Tryd.prog 3 = some ⟨1, 8, (.int .i64 0), (.int .i64), []⟩ := by kernel_rfl
theorem q3 : TyQ Tryd.prog 3 (some ⟨1, 8, (.int .i64 0), (.int .i64), []⟩) := fun ti h => by cases h; exact ⟨y3, .inl rfl⟩
theorem y4 : mkTI Tryd.prog 4 = some ⟨1, 1, (.bool false), .bool, []⟩ := by kernel_rfl
theorem q4 : TyQ Tryd.prog 4 (some ⟨1, 1, (.bool false), .bool, []⟩) := fun ti h => by cases h; exact ⟨y4, .inl rfl⟩
theorem y5 : mkTI Tryd.prog 5 = some ⟨1, 1, (.int .u8 0), (.int .u8), []⟩ := by kernel_rfl
theorem q5 : TyQ Tryd.prog 5 (some ⟨1, 1, (.int .u8 0), (.int .u8), []⟩) := fun ti h => by cases h; exact ⟨y5, .inl rfl⟩
theorem y6 : mkTI Tryd.prog 6 = some ⟨1, 1, (.int .u8 0), (.int .u8), []⟩ := by kernel_rfl
theorem q6 : TyQ Tryd.prog 6 (some ⟨1, 1, (.int .u8 0), (.int .u8), []⟩) := fun ti h => by cases h; exact ⟨y6, .inl rfl⟩
theorem y7 : mkTI Tryd.prog 7 = some ⟨4, 24, (.agg [(.int .i64 0), (.int .i64 0), (.bool false), (.int .u8 0)]), (.strct [(0, 2, 1), (1, 3, 1), (2, 4, 1), (3, 6, 1)]), []⟩ := by kernel_rfl
theorem q7 : TyQ Tryd.prog 7 (some ⟨4, 24, (.agg [(.int .i64 0), (.int .i64 0), (.bool false), (.int .u8 0)]), (.strct [(0, 2, 1), (1, 3, 1), (2, 4, 1), (3, 6, 1)]), []⟩) := fun ti h => by cases h; exact ⟨y7, .inl rfl⟩
theorem y8 : mkTI Tryd.prog 8 = some ⟨4, 24, (.agg [(.int .i64 0), (.int .i64 0), (.bool false), (.int .u8 0)]), (.strct [(0, 2, 1), (1, 3, 1), (2, 4, 1), (3, 6, 1)]), []⟩ := by kernel_rfl
theorem q8 : TyQ Tryd.prog 8 (some ⟨4, 24, (.agg [(.int .i64 0), (.int .i64 0), (.bool false), (.int .u8 0)]), (.strct [(0, 2, 1), (1, 3, 1), (2, 4, 1), (3, 6, 1)]), []⟩) := fun ti h => by cases h; exact ⟨y8, .inl rfl⟩
theorem y9 : mkTI Tryd.prog 9 = some ⟨1, 16, (.str []), .string, []⟩ := by kernel_rfl
theorem q9 : TyQ Tryd.prog 9 (some ⟨1, 16, (.str []), .string, []⟩) := fun ti h => by cases h; exact ⟨y9, .inl rfl⟩
theorem y10 : mkTI Tryd.prog 10 = some ⟨1, 16, (.str []), .string, []⟩ := by kernel_rfl
theorem q10 : TyQ Tryd.prog 10 (some ⟨1, 16, (.str []), .string, []⟩) := fun ti h => by cases h; exact ⟨y10, .inl rfl⟩
theorem y11 : mkTI Tryd.prog 11 = some ⟨1, 16, (.str []), .string, []⟩ := by kernel_rfl
theorem q11 : TyQ Tryd.prog 11 (some ⟨1, 16, (.str []), .string, []⟩) := fun ti h => by cases h; exact ⟨y11, .inl rfl⟩
theorem y12 : mkTI Tryd.prog 12 = some ⟨1, 8, (.int .u64 0), (.int .u64), []⟩ := by kernel_rfl
theorem q12 : TyQ Tryd.prog 12 (some ⟨1, 8, (.int .u64 0), (.int .u64), []⟩) := fun ti h => by cases h; exact ⟨y12, .inl rfl⟩
theorem y13 : mkTI Tryd.prog 13 = some ⟨2, 24, (.agg [(.str []), (.int .u64 0)]), (.strct [(0, 9, 1), (1, 12, 1)]), []⟩ := by kernel_rfl
theorem q13 : TyQ Tryd.prog 13 (some ⟨2, 24, (.agg [(.str []), (.int .u64 0)]), (.strct [(0, 9, 1), (1, 12, 1)]), []⟩) := fun ti h => by cases h; exact ⟨y13, .inl rfl⟩
theorem y14 : mkTI Tryd.prog 14 = some ⟨2, 24, (.agg [(.str []), (.int .u64 0)]), (.strct [(0, 9, 1), (1, 12, 1)]), []⟩ := by kernel_rfl
theorem q14 : TyQ Tryd.prog 14 (some ⟨2, 24, (.agg [(.str []), (.int .u64 0)]), (.strct [(0, 9, 1), (1, 12, 1)]), []⟩) := fun ti h => by cases h; exact ⟨y14, .inl rfl⟩
theorem y15 : mkTI Tryd.prog 15 = some ⟨1, 8, .nptr, (.ptr 165), []⟩ := by kernel_rfl
theorem q15 : TyQ Tryd.prog 15 (some ⟨1, 8, .nptr, (.ptr 165), []⟩) := fun ti h => by cases h; exact ⟨y15, .inl rfl⟩
theorem y16 : mkTI Tryd.prog 16 = some ⟨1, 8, .nptr, (.ptr 168), []⟩ := by kernel_rfl
theorem q16 : TyQ Tryd.prog 16 (some ⟨1, 8, .nptr, (.ptr 168), []⟩) := fun ti h => by cases h; exact ⟨y16, .inl rfl⟩
theorem y17 : mkTI Tryd.prog 17 = some ⟨1, 8, .nptr, (.ptr 177), []⟩ := by kernel_rfl
theorem q17 : TyQ Tryd.prog 17 (some ⟨1, 8, .nptr, (.ptr 177), []⟩) := fun ti h => by cases h; exact ⟨y17, .inl rfl⟩
theorem y18 : mkTI Tryd.prog 18 = some ⟨1, 8, (.agg [.nptr]), (.strct [(0, 17, 1)]), []⟩ := by kernel_rfl
theorem q18 : TyQ Tryd.prog 18 (some ⟨1, 8, (.agg [.nptr]), (.strct [(0, 17, 1)]), []⟩) := fun ti h => by cases h; exact ⟨y18, .inl rfl⟩
theorem y19 : mkTI Tryd.prog 19 = some ⟨1, 8, (.agg [.nptr]), (.strct [(0, 17, 1)]), []⟩ := by kernel_rfl
theorem q19 : TyQ Tryd.prog 19 (some ⟨1, 8, (.agg [.nptr]), (.strct [(0, 17, 1)]), []⟩) := fun ti h => by cases h; exact ⟨y19, .inl rfl⟩
theorem y20 : mkTI Tryd.prog 20 = some ⟨1, 16, .niface, .iface, []⟩ := by kernel_rfl
theorem q20 : TyQ Tryd.prog 20 (some ⟨1, 16, .niface, .iface, []⟩) := fun ti h => by cases h; exact ⟨y20, .inl rfl⟩
theorem y21 : mkTI Tryd.prog 21 = some ⟨1, 4, (.int .i32 0), (.int .i32), []⟩ := by kernel_rfl
theorem q21 : TyQ Tryd.prog 21 (some ⟨1, 4, (.int .i32 0), (.int .i32), []⟩) := fun ti h => by cases h; exact ⟨y21, .inl rfl⟩
theorem y22 : mkTI Tryd.prog 22 = some ⟨1, 24, .nslice, (.slice 3), []⟩ := by kernel_rfl
theorem q22 : TyQ Tryd.prog 22 (some ⟨1, 24, .nslice, (.slice 3), []⟩) := fun ti h => by cases h; exact ⟨y22, .inl rfl⟩
theorem y23 : mkTI Tryd.prog 23 = some ⟨4, 64, (.agg [.nslice, .nslice, (.int .i64 0), (.int .i64 0)]), (.strct [(0, 22, 1), (1, 22, 1), (2, 3, 1), (3, 3, 1)]), []⟩ := by kernel_rfl
theorem q23 : TyQ Tryd.prog 23 (some ⟨4, 64, (.agg [.nslice, .nslice, (.int .i64 0), (.int .i64 0)]), (.strct [(0, 22, 1), (1, 22, 1), (2, 3, 1), (3, 3, 1)]), []⟩) := fun ti h => by cases h; exact ⟨y23, .inl rfl⟩
theorem y24 : mkTI Tryd.prog 24 = some ⟨4, 64, (.agg [.nslice, .nslice, (.int .i64 0), (.int .i64 0)]), (.strct [(0, 22, 1), (1, 22, 1), (2, 3, 1), (3, 3, 1)]), []⟩ := by kernel_rfl
theorem q24 : TyQ Tryd.prog 24 (some ⟨4, 64, (.agg [.nslice, .nslice, (.int .i64 0), (.int .i64 0)]), (.strct [(0, 22, 1), (1, 22, 1), (2, 3, 1), (3, 3, 1)]), []⟩) := fun ti h => by cases h; exact ⟨y24, .inl rfl⟩
theorem y25 : mkTI Tryd.prog 25 = some ⟨1, 8, .nfunc, .func, []⟩ := by kernel_rfl
theorem q25 : TyQ Tryd.prog 25 (some ⟨1, 8, .nfunc, .func, []⟩) := fun ti h => by cases h; exact ⟨y25, .inl rfl⟩
theorem y26 : mkTI Tryd.prog 26 = some ⟨1, 8, .nfunc, .func, []⟩ := by kernel_rfl
theorem q26 : TyQ Tryd.prog 26 (some ⟨1, 8, .nfunc, .func, []⟩) := fun ti h => by cases h; exact ⟨y26, .inl rfl⟩
theorem y27 : mkTI Tryd.prog 27 = some ⟨1, 8, .nfunc, .func, []⟩ := by kernel_rfl
theorem q27 : TyQ Tryd.prog 27 (some ⟨1, 8, .nfunc, .func, []⟩) := fun ti h => by cases h; exact ⟨y27, .inl rfl⟩
theorem y28 : mkTI Tryd.prog 28 = some ⟨1, 8, (.int .i64 0), (.int .i64), []⟩ := by kernel_rfl
theorem q28 : TyQ Tryd.prog 28 (some ⟨1, 8, (.int .i64 0), (.int .i64), []⟩) := fun ti h => by cases h; exact ⟨y28, .inl rfl⟩
theorem y30 : mkTI Tryd.prog 30 = some ⟨1, 8, .nfunc, .func, []⟩ := by kernel_rfl
theorem q30 : TyQ Tryd.prog 30 (some ⟨1, 8, .nfunc, .func, []⟩) := fun ti h => by cases h; exact ⟨y30, .inl rfl⟩
theorem y31 : mkTI Tryd.prog 31 = some ⟨1, 8, .nfunc, .func, []⟩ := by kernel_rfl
theorem q31 : TyQ Tryd.prog 31 (some ⟨1, 8, .nfunc, .func, []⟩) := fun ti h => by cases h; exact ⟨y31, .inl rfl⟩
theorem y32 : mkTI Tryd.prog 32 = some ⟨1, 8, .nfunc, .func, []⟩ := by kernel_rfl
theorem q32 : TyQ Tryd.prog 32 (some ⟨1, 8, .nfunc, .func, []⟩) := fun ti h => by cases h; exact ⟨y32, .inl rfl⟩
theorem y34 : mkTI Tryd.prog 34 = some ⟨1, 8, .nfunc, .func, []⟩ := by kernel_rfl
theorem q34 : TyQ Tryd.prog 34 (some ⟨1, 8, .nfunc, .func, []⟩) := fun ti h => by cases h; exact ⟨y34, .inl rfl⟩
theorem y36 : mkTI Tryd.prog 36 = some ⟨1, 8, .nfunc, .func, []⟩ := by kernel_rfl
theorem q36 : TyQ Tryd.prog 36 (some ⟨1, 8, .nfunc, .func, []⟩) := fun ti h => by cases h; exact ⟨y36, .inl rfl⟩
theorem y37 : mkTI Tryd.prog 37 = some ⟨1, 8, .nfunc, .func, []⟩ := by kernel_rfl
theorem q37 : TyQ Tryd.prog 37 (some ⟨1, 8, .nfunc, .func, []⟩) := fun ti h => by cases h; exact ⟨y37, .inl rfl⟩
theorem y38 : mkTI Tryd.prog 38 = some ⟨1, 8, .nfunc, .func, []⟩ := by kernel_rfl
theorem q38 : TyQ Tryd.prog 38 (some ⟨1, 8, .nfunc, .func, []⟩) := fun ti h => by cases h; exact ⟨y38, .inl rfl⟩
theorem y40 : mkTI Tryd.prog 40 = some ⟨1, 8, .nfunc, .func, []⟩ := by kernel_rfl
theorem q40 : TyQ Tryd.prog 40 (some ⟨1, 8, .nfunc, .func, []⟩) := fun ti h => by cases h; exact ⟨y40, .inl rfl⟩
theorem y41 : mkTI Tryd.prog 41 = some ⟨1, 8, .nfunc, .func, []⟩ := by kernel_rfl
theorem q41 : TyQ Tryd.prog 41 (some ⟨1, 8, .nfunc, .func, []⟩) := fun ti h => by cases h; exact ⟨y41, .inl rfl⟩
theorem y42 : mkTI Tryd.prog 42 = some ⟨1, 8, .nfunc, .func, []⟩ := by kernel_rfl
theorem q42 : TyQ Tryd.prog 42 (some ⟨1, 8, .nfunc, .func, []⟩) := fun ti h => by cases h; exact ⟨y42, .inl rfl⟩
theorem y43 : mkTI Tryd.prog 43 = some ⟨1, 8, .nfunc, .func, []⟩ := by kernel_rfl
theorem q43 : TyQ Tryd.prog 43 (some ⟨1, 8, .nfunc, .func, []⟩) := fun ti h => by cases h; exact ⟨y43, .inl rfl⟩
theorem y44 : mkTI Tryd.prog 44 = some ⟨2, 16, (.agg [(.int .i64 0), (.int .i64 0)]), (.strct [(0, 2, 1), (1, 2, 1)]), []⟩ := by kernel_rfl
theorem q44 : TyQ Tryd.prog 44 (some ⟨2, 16, (.agg [(.int .i64 0), (.int .i64 0)]), (.strct [(0, 2, 1), (1, 2, 1)]), []⟩) := fun ti h => by cases h; exact ⟨y44, .inl rfl⟩
theorem y45 : mkTI Tryd.prog 45 = some ⟨2, 16, (.agg [(.int .i64 0), (.int .i64 0)]), (.strct [(0, 2, 1), (1, 2, 1)]), []⟩ := by kernel_rfl
theorem z45 : flT Tryd.prog 45 = [.i, .i] := by kernel_rfl
theorem q45 : TyQ Tryd.prog 45 (some ⟨2, 16, (.agg [(.int .i64 0), (.int .i64 0)]), (.strct [(0, 2, 1), (1, 2, 1)]), [.i, .i]⟩) := fun ti h => by cases h; exact ⟨y45, .inr z45⟩
theorem y47 : mkTI Tryd.prog 47 = some ⟨1, 8, .nfunc, .func, []⟩ := by kernel_rfl
theorem q47 : TyQ Tryd.prog 47 (some ⟨1, 8, .nfunc, .func, []⟩) := fun ti h => by cases h; exact ⟨y47, .inl rfl⟩
theorem y48 : mkTI Tryd.prog 48 = some ⟨1, 8, .nfunc, .func, []⟩ := by kernel_rfl
theorem q48 : TyQ Tryd.prog 48 (some ⟨1, 8, .nfunc, .func, []⟩) := fun ti h => by cases h; exact ⟨y48, .inl rfl⟩
theorem y50 : mkTI Tryd.prog 50 = some ⟨1, 8, .nfunc, .func, []⟩ := by kernel_rfl
theorem q50 : TyQ Tryd.prog 50 (some ⟨1, 8, .nfunc, .func, []⟩) := fun ti h => by cases h; exact ⟨y50, .inl rfl⟩
theorem y51 : mkTI Tryd.prog 51 = some ⟨1, 8, .nfunc, .func, []⟩ := by kernel_rfl
theorem q51 : TyQ Tryd.prog 51 (some ⟨1, 8, .nfunc, .func, []⟩) := fun ti h => by cases h; exact ⟨y51, .inl rfl⟩
theorem y52 : mkTI Tryd.prog 52 = some ⟨1, 8, .nfunc, .func, []⟩ := by kernel_rfl
theorem q52 : TyQ Tryd.prog 52 (some ⟨1, 8, .nfunc, .func, []⟩) := fun ti h => by cases h; exact ⟨y52, .inl rfl⟩
theorem y53 : mkTI Tryd.prog 53 = some ⟨2, 16, (.agg [(.int .i64 0), (.int .i64 0)]), (.strct [(0, 2, 1), (1, 2, 1)]), []⟩ := by kernel_rfl
theorem q53 : TyQ Tryd.prog 53 (some ⟨2, 16, (.agg [(.int .i64 0), (.int .i64 0)]), (.strct [(0, 2, 1), (1, 2, 1)]), []⟩) := fun ti h => by cases h; exact ⟨y53, .inl rfl⟩
theorem y54 : mkTI Tryd.prog 54 = some ⟨2, 16, (.agg [(.int .i64 0), (.int .i64 0)]), (.strct [(0, 2, 1), (1, 2, 1)]), []⟩ := by kernel_rfl
theorem z54 : flT Tryd.prog 54 = [.i, .i] := by kernel_rfl
theorem q54 : TyQ Tryd.prog 54 (some ⟨2, 16, (.agg [(.int .i64 0), (.int .i64 0)]), (.strct [(0, 2, 1), (1, 2, 1)]), [.i, .i]⟩) := fun ti h => by cases h; exact ⟨y54, .inr z54⟩
theorem y56 : mkTI Tryd.prog 56 = some ⟨1, 8, .nfunc, .func, []⟩ := by kernel_rfl
theorem q56 : TyQ Tryd.prog 56 (some ⟨1, 8, .nfunc, .func, []⟩) := fun ti h => by cases h; exact ⟨y56, .inl rfl⟩
theorem y57 : mkTI Tryd.prog 57 = some ⟨1, 8, .nfunc, .func, []⟩ := by kernel_rfl
theorem q57 : TyQ Tryd.prog 57 (some ⟨1, 8, .nfunc, .func, []⟩) := fun ti h => by cases h; exact ⟨y57, .inl rfl⟩
theorem y58 : mkTI Tryd.prog 58 = some ⟨1, 8, .nfunc, .func, []⟩ := by kernel_rfl
theorem q58 : TyQ Tryd.prog 58 (some ⟨1, 8, .nfunc, .func, []⟩) := fun ti h => by cases h; exact ⟨y58, .inl rfl⟩
theorem y60 : mkTI Tryd.prog 60 = some ⟨1, 8, .nfunc, .func, []⟩ := by kernel_rfl
theorem q60 : TyQ Tryd.prog 60 (some ⟨1, 8, .nfunc, .func, []⟩) := fun ti h => by cases h; exact ⟨y60, .inl rfl⟩
theorem y61 : mkTI Tryd.prog 61 = some ⟨1, 8, .nfunc, .func, []⟩ := by kernel_rfl
theorem q61 : TyQ Tryd.prog 61 (some ⟨1, 8, .nfunc, .func, []⟩) := fun ti h => by cases h; exact ⟨y61, .inl rfl⟩
theorem y62 : mkTI Tryd.prog 62 = some ⟨1, 8, .nfunc, .func, []⟩ := by kernel_rfl
theorem q62 : TyQ Tryd.prog 62 (some ⟨1, 8, .nfunc, .func, []⟩) := fun ti h => by cases h; exact ⟨y62, .inl rfl⟩
theorem y63 : mkTI Tryd.prog 63 = some ⟨1, 24, .nslice, (.slice 5), []⟩ := by kernel_rfl
theorem q63 : TyQ Tryd.prog 63 (some ⟨1, 24, .nslice, (.slice 5), []⟩) := fun ti h => by cases h; exact ⟨y63, .inl rfl⟩
theorem y64 : mkTI Tryd.prog 64 = some ⟨1, 8, .nfunc, .func, []⟩ := by kernel_rfl
theorem q64 : TyQ Tryd.prog 64 (some ⟨1, 8, .nfunc, .func, []⟩) := fun ti h => by cases h; exact ⟨y64, .inl rfl⟩
theorem y65 : mkTI Tryd.prog 65 = some ⟨1, 8, .nfunc, .func, []⟩ := by kernel_rfl
theorem q65 : TyQ Tryd.prog 65 (some ⟨1, 8, .nfunc, .func, []⟩) := fun ti h => by cases h; exact ⟨y65, .inl rfl⟩
theorem y66 : mkTI Tryd.prog 66 = some ⟨1, 8, .nfunc, .func, []⟩ := by kernel_rfl
theorem q66 : TyQ Tryd.prog 66 (some ⟨1, 8, .nfunc, .func, []⟩) := fun ti h => by cases h; exact ⟨y66, .inl rfl⟩
theorem y67 : mkTI Tryd.prog 67 = some ⟨1, 8, .nfunc, .func, []⟩ := by kernel_rfl
theorem q67 : TyQ Tryd.prog 67 (some ⟨1, 8, .nfunc, .func, []⟩) := fun ti h => by cases h; exact ⟨y67, .inl rfl⟩
theorem y68 : mkTI Tryd.prog 68 = some ⟨1, 8, .nfunc, .func, []⟩ := by kernel_rfl
theorem q68 : TyQ Tryd.prog 68 (some ⟨1, 8, .nfunc, .func, []⟩) := fun ti h => by cases h; exact ⟨y68, .inl rfl⟩
theorem y69 : mkTI Tryd.prog 69 = some ⟨1, 8, .nfunc, .func, []⟩ := by kernel_rfl
theorem q69 : TyQ Tryd.prog 69 (some ⟨1, 8, .nfunc, .func, []⟩) := fun ti h => by cases h; exact ⟨y69, .inl rfl⟩
theorem y70 : mkTI Tryd.prog 70 = some ⟨1, 8, .nfunc, .func, []⟩ := by kernel_rfl
theorem q70 : TyQ Tryd.prog 70 (some ⟨1, 8, .nfunc, .func, []⟩) := fun ti h => by cases h; exact ⟨y70, .inl rfl⟩
theorem y71 : mkTI Tryd.prog 71 = some ⟨1, 8, .nfunc, .func, []⟩ := by kernel_rfl
theorem q71 : TyQ Tryd.prog 71 (some ⟨1, 8, .nfunc, .func, []⟩) := fun ti h => by cases h; exact ⟨y71, .inl rfl⟩
theorem y72 : mkTI Tryd.prog 72 = some ⟨1, 8, .nfunc, .func, []⟩ := by kernel_rfl
theorem q72 : TyQ Tryd.prog 72 (some ⟨1, 8, .nfunc, .func, []⟩) := fun ti h => by cases h; exact ⟨y72, .inl rfl⟩
theorem y73 : mkTI Tryd.prog 73 = some ⟨1, 8, .nfunc, .func, []⟩ := by kernel_rfl
theorem q73 : TyQ Tryd.prog 73 (some ⟨1, 8, .nfunc, .func, []⟩) := fun ti h => by cases h; exact ⟨y73, .inl rfl⟩
theorem y74 : mkTI Tryd.prog 74 = some ⟨1, 8, .nfunc, .func, []⟩ := by kernel_rfl
theorem q74 : TyQ Tryd.prog 74 (some ⟨1, 8, .nfunc, .func, []⟩) := fun ti h => by cases h; exact ⟨y74, .inl rfl⟩
theorem y75 : mkTI Tryd.prog 75 = some ⟨1, 8, .nfunc, .func, []⟩ := by kernel_rfl
theorem q75 : TyQ Tryd.prog 75 (some ⟨1, 8, .nfunc, .func, []⟩) := fun ti h => by cases h; exact ⟨y75, .inl rfl⟩
theorem y76 : mkTI Tryd.prog 76 = some ⟨1, 8, .nfunc, .func, []⟩ := by kernel_rfl
theorem q76 : TyQ Tryd.prog 76 (some ⟨1, 8, .nfunc, .func, []⟩) := fun ti h => by cases h; exact ⟨y76, .inl rfl⟩
theorem y77 : mkTI Tryd.prog 77 = some ⟨1, 8, .nfunc, .func, []⟩ := by kernel_rfl
theorem q77 : TyQ Tryd.prog 77 (some ⟨1, 8, .nfunc, .func, []⟩) := fun ti h => by cases h; exact ⟨y77, .inl rfl⟩
theorem y78 : mkTI Tryd.prog 78 = some ⟨1, 8, .nfunc, .func, []⟩ := by kernel_rfl
theorem q78 : TyQ Tryd.prog 78 (some ⟨1, 8, .nfunc, .func, []⟩) := fun ti h => by cases h; exact ⟨y78, .inl rfl⟩
theorem y79 : mkTI Tryd.prog 79 = some ⟨1, 8, .nptr, (.ptr 112), []⟩ := by kernel_rfl
theorem q79 : TyQ Tryd.prog 79 (some ⟨1, 8, .nptr, (.ptr 112), []⟩) := fun ti h => by cases h; exact ⟨y79, .inl rfl⟩
theorem y81 : mkTI Tryd.prog 81 = some ⟨1, 8, .nfunc, .func, []⟩ := by kernel_rfl
theorem q81 : TyQ Tryd.prog 81 (some ⟨1, 8, .nfunc, .func, []⟩) := fun ti h => by cases h; exact ⟨y81, .inl rfl⟩
theorem y82 : mkTI Tryd.prog 82 = some ⟨1, 8, .nfunc, .func, []⟩ := by kernel_rfl
theorem q82 : TyQ Tryd.prog 82 (some ⟨1, 8, .nfunc, .func, []⟩) := fun ti h => by cases h; exact ⟨y82, .inl rfl⟩
theorem y83 : mkTI Tryd.prog 83 = some ⟨2, 16, (.agg [(.int .i64 0), (.int .i64 0)]), (.strct [(0, 3, 1), (1, 3, 1)]), []⟩ := by kernel_rfl
theorem q83 : TyQ Tryd.prog 83 (some ⟨2, 16, (.agg [(.int .i64 0), (.int .i64 0)]), (.strct [(0, 3, 1), (1, 3, 1)]), []⟩) := fun ti h => by cases h; exact ⟨y83, .inl rfl⟩
theorem y84 : mkTI Tryd.prog 84 = some ⟨2, 16, (.agg [(.int .i64 0), (.int .i64 0)]), (.strct [(0, 3, 1), (1, 3, 1)]), []⟩ := by kernel_rfl
theorem z84 : flT Tryd.prog 84 = [.i, .i] := by kernel_rfl
theorem q84 : TyQ Tryd.prog 84 (some ⟨2, 16, (.agg [(.int .i64 0), (.int .i64 0)]), (.strct [(0, 3, 1), (1, 3, 1)]), [.i, .i]⟩) := fun ti h => by cases h; exact ⟨y84, .inr z84⟩
theorem y86 : mkTI Tryd.prog 86 = some ⟨1, 8, .nfunc, .func, []⟩ := by kernel_rfl
theorem q86 : TyQ Tryd.prog 86 (some ⟨1, 8, .nfunc, .func, []⟩) := fun ti h => by cases h; exact ⟨y86, .inl rfl⟩
theorem y87 : mkTI Tryd.prog 87 = some ⟨1, 8, .nfunc, .func, []⟩ := by kernel_rfl
theorem q87 : TyQ Tryd.prog 87 (some ⟨1, 8, .nfunc, .func, []⟩) := fun ti h => by cases h; exact ⟨y87, .inl rfl⟩
theorem y88 : mkTI Tryd.prog 88 = some ⟨1, 8, .nfunc, .func, []⟩ := by kernel_rfl
theorem q88 : TyQ Tryd.prog 88 (some ⟨1, 8, .nfunc, .func, []⟩) := fun ti h => by cases h; exact ⟨y88, .inl rfl⟩
theorem y89 : mkTI Tryd.prog 89 = some ⟨1, 8, .nfunc, .func, []⟩ := by kernel_rfl
theorem q89 : TyQ Tryd.prog 89 (some ⟨1, 8, .nfunc, .func, []⟩) := fun ti h => by cases h; exact ⟨y89, .inl rfl⟩
theorem y90 : mkTI Tryd.prog 90 = some ⟨1, 8, .nfunc, .func, []⟩ := by kernel_rfl
theorem q90 : TyQ Tryd.prog 90 (some ⟨1, 8, .nfunc, .func, []⟩) := fun ti h => by cases h; exact ⟨y90, .inl rfl⟩
theorem y91 : mkTI Tryd.prog 91 = some ⟨1, 8, .nfunc, .func, []⟩ := by kernel_rfl
theorem q91 : TyQ Tryd.prog 91 (some ⟨1, 8, .nfunc, .func, []⟩) := fun ti h => by cases h; exact ⟨y91, .inl rfl⟩
theorem y92 : mkTI Tryd.prog 92 = some ⟨1, 8, .nfunc, .func, []⟩ := by kernel_rfl
theorem q92 : TyQ Tryd.prog 92 (some ⟨1, 8, .nfunc, .func, []⟩) := fun ti h => by cases h; exact ⟨y92, .inl rfl⟩
theorem y93 : mkTI Tryd.prog 93 = some ⟨1, 8, .nfunc, .func, []⟩ := by kernel_rfl
theorem q93 : TyQ Tryd.prog 93 (some ⟨1, 8, .nfunc, .func, []⟩) := fun ti h => by cases h; exact ⟨y93, .inl rfl⟩
theorem y94 : mkTI Tryd.prog 94 = some ⟨1, 8, .nfunc, .func, []⟩ := by kernel_rfl
theorem q94 : TyQ Tryd.prog 94 (some ⟨1, 8, .nfunc, .func, []⟩) := fun ti h => by cases h; exact ⟨y94, .inl rfl⟩
theorem y95 : mkTI Tryd.prog 95 = some ⟨1, 8, .nfunc, .func, []⟩ := by kernel_rfl
theorem q95 : TyQ Tryd.prog 95 (some ⟨1, 8, .nfunc, .func, []⟩) := fun ti h => by cases h; exact ⟨y95, .inl rfl⟩
theorem y96 : mkTI Tryd.prog 96 = some ⟨16, 128, (.agg (rep 16 [(.int .i64 0)])), (.array 16 3), []⟩ := by kernel_rfl
theorem q96 : TyQ Tryd.prog 96 (some ⟨16, 128, (.agg (rep 16 [(.int .i64 0)])), (.array 16 3), []⟩) := fun ti h => by cases h; exact ⟨y96, .inl rfl⟩
theorem y97 : mkTI Tryd.prog 97 = some ⟨16, 128, (.agg (rep 16 [(.int .i64 0)])), (.array 16 3), []⟩ := by kernel_rfl
theorem z97 : flT Tryd.prog 97 = (List.replicate 16 .i) := by kernel_rfl
theorem q97 : TyQ Tryd.prog 97 (some ⟨16, 128, (.agg (rep 16 [(.int .i64 0)])), (.array 16 3), (List.replicate 16 .i)⟩) := fun ti h => by cases h; exact ⟨y97, .inr z97⟩
theorem y98 : mkTI Tryd.prog 98 = some ⟨1, 8, .nfunc, .func, []⟩ := by kernel_rfl
theorem q98 : TyQ Tryd.prog 98 (some ⟨1, 8, .nfunc, .func, []⟩) := fun ti h => by cases h; exact ⟨y98, .inl rfl⟩
theorem y99 : mkTI Tryd.prog 99 = some ⟨1, 8, .nfunc, .func, []⟩ := by kernel_rfl
theorem q99 : TyQ Tryd.prog 99 (some ⟨1, 8, .nfunc, .func, []⟩) := fun ti h => by cases h; exact ⟨y99, .inl rfl⟩
theorem y100 : mkTI Tryd.prog 100 = some ⟨1, 8, .nfunc, .func, []⟩ := by kernel_rfl
theorem q100 : TyQ Tryd.prog 100 (some ⟨1, 8, .nfunc, .func, []⟩) := fun ti h => by cases h; exact ⟨y100, .inl rfl⟩
theorem y101 : mkTI Tryd.prog 101 = some ⟨1, 8, .nfunc, .func, []⟩ := by kernel_rfl
theorem q101 : TyQ Tryd.prog 101 (some ⟨1, 8, .nfunc, .func, []⟩) := fun ti h => by cases h; exact ⟨y101, .inl rfl⟩
theorem y102 : mkTI Tryd.prog 102 = some ⟨1, 8, .nfunc, .func, []⟩ := by kernel_rfl
theorem q102 : TyQ Tryd.prog 102 (some ⟨1, 8, .nfunc, .func, []⟩) := fun ti h => by cases h; exact ⟨y102, .inl rfl⟩
theorem y103 : mkTI Tryd.prog 103 = some ⟨1, 8, .nfunc, .func, []⟩ := by kernel_rfl
theorem q103 : TyQ Tryd.prog 103 (some ⟨1, 8, .nfunc, .func, []⟩) := fun ti h => by cases h; exact ⟨y103, .inl rfl⟩
theorem y104 : mkTI Tryd.prog 104 = some ⟨1, 8, .nfunc, .func, []⟩ := by kernel_rfl
theorem q104 : TyQ Tryd.prog 104 (some ⟨1, 8, .nfunc, .func, []⟩) := fun ti h => by cases h; exact ⟨y104, .inl rfl⟩
theorem y106 : mkTI Tryd.prog 106 = some ⟨1, 8, .nfunc, .func, []⟩ := by kernel_rfl
theorem q106 : TyQ Tryd.prog 106 (some ⟨1, 8, .nfunc, .func, []⟩) := fun ti h => by cases h; exact ⟨y106, .inl rfl⟩
theorem y108 : mkTI Tryd.prog 108 = some ⟨1, 8, .nfunc, .func, []⟩ := by kernel_rfl
theorem q108 : TyQ Tryd.prog 108 (some ⟨1, 8, .nfunc, .func, []⟩) := fun ti h => by cases h; exact ⟨y108, .inl rfl⟩
theorem y109 : mkTI Tryd.prog 109 = some ⟨1, 8, .nfunc, .func, []⟩ := by kernel_rfl
theorem q109 : TyQ Tryd.prog 109 (some ⟨1, 8, .nfunc, .func, []⟩) := fun ti h => by cases h; exact ⟨y109, .inl rfl⟩
theorem y110 : mkTI Tryd.prog 110 = some ⟨1, 8, .nfunc, .func, []⟩ := by kernel_rfl
theorem q110 : TyQ Tryd.prog 110 (some ⟨1, 8, .nfunc, .func, []⟩) := fun ti h => by cases h; exact ⟨y110, .inl rfl⟩
theorem y111 : mkTI Tryd.prog 111 = some ⟨4, 64, (.agg [.nslice, .nslice, (.int .i64 0), (.int .i64 0)]), (.strct [(0, 24, 4)]), []⟩ := by kernel_rfl
theorem q111 : TyQ Tryd.prog 111 (some ⟨4, 64, (.agg [.nslice, .nslice, (.int .i64 0), (.int .i64 0)]), (.strct [(0, 24, 4)]), []⟩) := fun ti h => by cases h; exact ⟨y111, .inl rfl⟩
theorem y112 : mkTI Tryd.prog 112 = some ⟨4, 64, (.agg [.nslice, .nslice, (.int .i64 0), (.int .i64 0)]), (.strct [(0, 24, 4)]), []⟩ := by kernel_rfl
theorem q112 : TyQ Tryd.prog 112 (some ⟨4, 64, (.agg [.nslice, .nslice, (.int .i64 0), (.int .i64 0)]), (.strct [(0, 24, 4)]), []⟩) := fun ti h => by cases h; exact ⟨y112, .inl rfl⟩
theorem y113 : mkTI Tryd.prog 113 = some ⟨1, 8, .nfunc, .func, []⟩ := by kernel_rfl
theorem q113 : TyQ Tryd.prog 113 (some ⟨1, 8, .nfunc, .func, []⟩) := fun ti h => by cases h; exact ⟨y113, .inl rfl⟩
theorem y114 : mkTI Tryd.prog 114 = some ⟨1, 8, .nfunc, .func, []⟩ := by kernel_rfl
theorem q114 : TyQ Tryd.prog 114 (some ⟨1, 8, .nfunc, .func, []⟩) := fun ti h => by cases h; exact ⟨y114, .inl rfl⟩
theorem y115 : mkTI Tryd.prog 115 = some ⟨1, 8, .nfunc, .func, []⟩ := by kernel_rfl
theorem q115 : TyQ Tryd.prog 115 (some ⟨1, 8, .nfunc, .func, []⟩) := fun ti h => by cases h; exact ⟨y115, .inl rfl⟩
theorem y116 : mkTI Tryd.prog 116 = some ⟨1, 8, .nfunc, .func, []⟩ := by kernel_rfl
theorem q116 : TyQ Tryd.prog 116 (some ⟨1, 8, .nfunc, .func, []⟩) := fun ti h => by cases h; exact ⟨y116, .inl rfl⟩
theorem y117 : mkTI Tryd.prog 117 = some ⟨1, 8, .nfunc, .func, []⟩ := by kernel_rfl
theorem q117 : TyQ Tryd.prog 117 (some ⟨1, 8, .nfunc, .func, []⟩) := fun ti h => by cases h; exact ⟨y117, .inl rfl⟩
theorem y118 : mkTI Tryd.prog 118 = some ⟨1, 8, .nfunc, .func, []⟩ := by kernel_rfl
theorem q118 : TyQ Tryd.prog 118 (some ⟨1, 8, .nfunc, .func, []⟩) := fun ti h => by cases h; exact ⟨y118, .inl rfl⟩
theorem y119 : mkTI Tryd.prog 119 = some ⟨1, 8, .nfunc, .func, []⟩ := by kernel_rfl
theorem q119 : TyQ Tryd.prog 119 (some ⟨1, 8, .nfunc, .func, []⟩) := fun ti h => by cases h; exact ⟨y119, .inl rfl⟩
theorem y120 : mkTI Tryd.prog 120 = some ⟨1, 8, .nfunc, .func, []⟩ := by kernel_rfl
theorem q120 : TyQ Tryd.prog 120 (some ⟨1, 8, .nfunc, .func, []⟩) := fun ti h => by cases h; exact ⟨y120, .inl rfl⟩
theorem y122 : mkTI Tryd.prog 122 = some ⟨1, 8, .nfunc, .func, []⟩ := by kernel_rfl
theorem q122 : TyQ Tryd.prog 122 (some ⟨1, 8, .nfunc, .func, []⟩) := fun ti h => by cases h; exact ⟨y122, .inl rfl⟩
theorem y123 : mkTI Tryd.prog 123 = some ⟨1, 24, .nslice, (.slice 45), []⟩ := by kernel_rfl
theorem q123 : TyQ Tryd.prog 123 (some ⟨1, 24, .nslice, (.slice 45), []⟩) := fun ti h => by cases h; exact ⟨y123, .inl rfl⟩
theorem y124 : mkTI Tryd.prog 124 = some ⟨1, 8, .nfunc, .func, []⟩ := by kernel_rfl
theorem q124 : TyQ Tryd.prog 124 (some ⟨1, 8, .nfunc, .func, []⟩) := fun ti h => by cases h; exact ⟨y124, .inl rfl⟩
theorem y125 : mkTI Tryd.prog 125 = some ⟨1, 8, .nfunc, .func, []⟩ := by kernel_rfl
theorem q125 : TyQ Tryd.prog 125 (some ⟨1, 8, .nfunc, .func, []⟩) := fun ti h => by cases h; exact ⟨y125, .inl rfl⟩
theorem y126 : mkTI Tryd.prog 126 = some ⟨1, 8, .nfunc, .func, []⟩ := by kernel_rfl
theorem q126 : TyQ Tryd.prog 126 (some ⟨1, 8, .nfunc, .func, []⟩) := fun ti h => by cases h; exact ⟨y126, .inl rfl⟩
theorem y127 : mkTI Tryd.prog 127 = some ⟨1, 8, .nfunc, .func, []⟩ := by kernel_rfl
theorem q127 : TyQ Tryd.prog 127 (some ⟨1, 8, .nfunc, .func, []⟩) := fun ti h => by cases h; exact ⟨y127, .inl rfl⟩
theorem y128 : mkTI Tryd.prog 128 = some ⟨1, 8, .nfunc, .func, []⟩ := by kernel_rfl
theorem q128 : TyQ Tryd.prog 128 (some ⟨1, 8, .nfunc, .func, []⟩) := fun ti h => by cases h; exact ⟨y128, .inl rfl⟩
theorem y129 : mkTI Tryd.prog 129 = some ⟨1, 8, .nmap, (.map 3 3), []⟩ := by kernel_rfl
theorem q129 : TyQ Tryd.prog 129 (some ⟨1, 8, .nmap, (.map 3 3), []⟩) := fun ti h => by cases h; exact ⟨y129, .inl rfl⟩
theorem y131 : mkTI Tryd.prog 131 = some ⟨1, 8, .nfunc, .func, []⟩ := by kernel_rfl
theorem q131 : TyQ Tryd.prog 131 (some ⟨1, 8, .nfunc, .func, []⟩) := fun ti h => by cases h; exact ⟨y131, .inl rfl⟩
theorem y132 : mkTI Tryd.prog 132 = some ⟨256, 256, (.agg (rep 256 [(.bool false)])), (.array 256 4), []⟩ := by kernel_rfl
theorem q132 : TyQ Tryd.prog 132 (some ⟨256, 256, (.agg (rep 256 [(.bool false)])), (.array 256 4), []⟩) := fun ti h => by cases h; exact ⟨y132, .inl rfl⟩
theorem y133 : mkTI Tryd.prog 133 = some ⟨256, 256, (.agg (rep 256 [(.bool false)])), (.array 256 4), []⟩ := by kernel_rfl
theorem q133 : TyQ Tryd.prog 133 (some ⟨256, 256, (.agg (rep 256 [(.bool false)])), (.array 256 4), []⟩) := fun ti h => by cases h; exact ⟨y133, .inl rfl⟩
theorem y135 : mkTI Tryd.prog 135 = some ⟨1, 8, .nfunc, .func, []⟩ := by kernel_rfl
theorem q135 : TyQ Tryd.prog 135 (some ⟨1, 8, .nfunc, .func, []⟩) := fun ti h => by cases h; exact ⟨y135, .inl rfl⟩
theorem y136 : mkTI Tryd.prog 136 = some ⟨1, 8, .nfunc, .func, []⟩ := by kernel_rfl
theorem q136 : TyQ Tryd.prog 136 (some ⟨1, 8, .nfunc, .func, []⟩) := fun ti h => by cases h; exact ⟨y136, .inl rfl⟩
theorem y137 : mkTI Tryd.prog 137 = some ⟨1, 8, .nptr, (.ptr 133), []⟩ := by kernel_rfl
theorem q137 : TyQ Tryd.prog 137 (some ⟨1, 8, .nptr, (.ptr 133), []⟩) := fun ti h => by cases h; exact ⟨y137, .inl rfl⟩
theorem y138 : mkTI Tryd.prog 138 = some ⟨1, 8, .nfunc, .func, []⟩ := by kernel_rfl
theorem q138 : TyQ Tryd.prog 138 (some ⟨1, 8, .nfunc, .func, []⟩) := fun ti h => by cases h; exact ⟨y138, .inl rfl⟩
theorem y139 : mkTI Tryd.prog 139 = some ⟨1, 8, .nmap, (.map 141 143), []⟩ := by kernel_rfl
theorem q139 : TyQ Tryd.prog 139 (some ⟨1, 8, .nmap, (.map 141 143), []⟩) := fun ti h => by cases h; exact ⟨y139, .inl rfl⟩
theorem y140 : mkTI Tryd.prog 140 = some ⟨3, 24, (.agg [(.int .i64 0), (.int .i64 0), (.int .i64 0)]), (.strct [(0, 84, 2), (2, 3, 1)]), []⟩ := by kernel_rfl
theorem q140 : TyQ Tryd.prog 140 (some ⟨3, 24, (.agg [(.int .i64 0), (.int .i64 0), (.int .i64 0)]), (.strct [(0, 84, 2), (2, 3, 1)]), []⟩) := fun ti h => by cases h; exact ⟨y140, .inl rfl⟩
theorem y141 : mkTI Tryd.prog 141 = some ⟨3, 24, (.agg [(.int .i64 0), (.int .i64 0), (.int .i64 0)]), (.strct [(0, 84, 2), (2, 3, 1)]), []⟩ := by kernel_rfl
theorem q141 : TyQ Tryd.prog 141 (some ⟨3, 24, (.agg [(.int .i64 0), (.int .i64 0), (.int .i64 0)]), (.strct [(0, 84, 2), (2, 3, 1)]), []⟩) := fun ti h => by cases h; exact ⟨y141, .inl rfl⟩
theorem y142 : mkTI Tryd.prog 142 = some ⟨2, 24, (.agg [(.int .i64 0), (.str [])]), (.strct [(0, 3, 1), (1, 9, 1)]), []⟩ := by kernel_rfl
theorem q142 : TyQ Tryd.prog 142 (some ⟨2, 24, (.agg [(.int .i64 0), (.str [])]), (.strct [(0, 3, 1), (1, 9, 1)]), []⟩) := fun ti h => by cases h; exact ⟨y142, .inl rfl⟩
theorem y143 : mkTI Tryd.prog 143 = some ⟨2, 24, (.agg [(.int .i64 0), (.str [])]), (.strct [(0, 3, 1), (1, 9, 1)]), []⟩ := by kernel_rfl
theorem q143 : TyQ Tryd.prog 143 (some ⟨2, 24, (.agg [(.int .i64 0), (.str [])]), (.strct [(0, 3, 1), (1, 9, 1)]), []⟩) := fun ti h => by cases h; exact ⟨y143, .inl rfl⟩
theorem y145 : mkTI Tryd.prog 145 = some ⟨1, 8, .nfunc, .func, []⟩ := by kernel_rfl
theorem q145 : TyQ Tryd.prog 145 (some ⟨1, 8, .nfunc, .func, []⟩) := fun ti h => by cases h; exact ⟨y145, .inl rfl⟩
theorem y146 : mkTI Tryd.prog 146 = some ⟨1, 8, .nfunc, .func, []⟩ := by kernel_rfl
theorem q146 : TyQ Tryd.prog 146 (some ⟨1, 8, .nfunc, .func, []⟩) := fun ti h => by cases h; exact ⟨y146, .inl rfl⟩
theorem y148 : mkTI Tryd.prog 148 = some ⟨1, 8, .nfunc, .func, []⟩ := by kernel_rfl
theorem q148 : TyQ Tryd.prog 148 (some ⟨1, 8, .nfunc, .func, []⟩) := fun ti h => by cases h; exact ⟨y148, .inl rfl⟩
theorem y149 : mkTI Tryd.prog 149 = some ⟨1, 8, .nfunc, .func, []⟩ := by kernel_rfl
theorem q149 : TyQ Tryd.prog 149 (some ⟨1, 8, .nfunc, .func, []⟩) := fun ti h => by cases h; exact ⟨y149, .inl rfl⟩
theorem y150 : mkTI Tryd.prog 150 = some ⟨1, 8, (.int .u64 0), (.int .u64), []⟩ := by kernel_rfl
theorem q150 : TyQ Tryd.prog 150 (some ⟨1, 8, (.int .u64 0), (.int .u64), []⟩) := fun ti h => by cases h; exact ⟨y150, .inl rfl⟩
theorem y151 : mkTI Tryd.prog 151 = some ⟨1, 24, .nslice, (.slice 143), []⟩ := by kernel_rfl
theorem q151 : TyQ Tryd.prog 151 (some ⟨1, 24, .nslice, (.slice 143), []⟩) := fun ti h => by cases h; exact ⟨y151, .inl rfl⟩
theorem y152 : mkTI Tryd.prog 152 = some ⟨1, 8, .nfunc, .func, []⟩ := by kernel_rfl
theorem q152 : TyQ Tryd.prog 152 (some ⟨1, 8, .nfunc, .func, []⟩) := fun ti h => by cases h; exact ⟨y152, .inl rfl⟩
theorem y153 : mkTI Tryd.prog 153 = some ⟨1, 8, .nfunc, .func, []⟩ := by kernel_rfl
theorem q153 : TyQ Tryd.prog 153 (some ⟨1, 8, .nfunc, .func, []⟩) := fun ti h => by cases h; exact ⟨y153, .inl rfl⟩
theorem y154 : mkTI Tryd.prog 154 = some ⟨1, 8, .nfunc, .func, []⟩ := by kernel_rfl
theorem q154 : TyQ Tryd.prog 154 (some ⟨1, 8, .nfunc, .func, []⟩) := fun ti h => by cases h; exact ⟨y154, .inl rfl⟩
theorem y155 : mkTI Tryd.prog 155 = some ⟨1, 4, (.int .u32 0), (.int .u32), []⟩ := by kernel_rfl
theorem q155 : TyQ Tryd.prog 155 (some ⟨1, 4, (.int .u32 0), (.int .u32), []⟩) := fun ti h => by cases h; exact ⟨y155, .inl rfl⟩
theorem y157 : mkTI Tryd.prog 157 = some ⟨1, 8, .nfunc, .func, []⟩ := by kernel_rfl
theorem q157 : TyQ Tryd.prog 157 (some ⟨1, 8, .nfunc, .func, []⟩) := fun ti h => by cases h; exact ⟨y157, .inl rfl⟩
theorem y158 : mkTI Tryd.prog 158 = some ⟨256, 256, (.agg (rep 256 [(.int .u8 0)])), (.array 256 5), []⟩ := by kernel_rfl
theorem q158 : TyQ Tryd.prog 158 (some ⟨256, 256, (.agg (rep 256 [(.int .u8 0)])), (.array 256 5), []⟩) := fun ti h => by cases h; exact ⟨y158, .inl rfl⟩
theorem y159 : mkTI Tryd.prog 159 = some ⟨2, 2, (.agg [(.int .u8 0), (.int .u8 0)]), (.strct [(0, 5, 1), (1, 5, 1)]), []⟩ := by kernel_rfl
theorem q159 : TyQ Tryd.prog 159 (some ⟨2, 2, (.agg [(.int .u8 0), (.int .u8 0)]), (.strct [(0, 5, 1), (1, 5, 1)]), []⟩) := fun ti h => by cases h; exact ⟨y159, .inl rfl⟩
theorem y160 : mkTI Tryd.prog 160 = some ⟨2, 2, (.agg [(.int .u8 0), (.int .u8 0)]), (.strct [(0, 5, 1), (1, 5, 1)]), []⟩ := by kernel_rfl
theorem q160 : TyQ Tryd.prog 160 (some ⟨2, 2, (.agg [(.int .u8 0), (.int .u8 0)]), (.strct [(0, 5, 1), (1, 5, 1)]), []⟩) := fun ti h => by cases h; exact ⟨y160, .inl rfl⟩
theorem y161 : mkTI Tryd.prog 161 = some ⟨32, 32, (.agg (rep 32 [(.int .u8 0)])), (.array 16 160), []⟩ := by kernel_rfl
theorem q161 : TyQ Tryd.prog 161 (some ⟨32, 32, (.agg (rep 32 [(.int .u8 0)])), (.array 16 160), []⟩) := fun ti h => by cases h; exact ⟨y161, .inl rfl⟩
theorem y162 : mkTI Tryd.prog 162 = some ⟨1, 8, .nfunc, .func, []⟩ := by kernel_rfl
theorem q162 : TyQ Tryd.prog 162 (some ⟨1, 8, .nfunc, .func, []⟩) := fun ti h => by cases h; exact ⟨y162, .inl rfl⟩
theorem y163 : mkTI Tryd.prog 163 = some ⟨1, 8, .nfunc, .func, []⟩ := by kernel_rfl
theorem q163 : TyQ Tryd.prog 163 (some ⟨1, 8, .nfunc, .func, []⟩) := fun ti h => by cases h; exact ⟨y163, .inl rfl⟩
theorem y164 : mkTI Tryd.prog 164 = some ⟨4, 40, (.agg [.nptr, .nptr, .nptr, (.str [])]), (.strct [(0, 17, 1), (1, 17, 1), (2, 17, 1), (3, 9, 1)]), []⟩ := by kernel_rfl
theorem q164 : TyQ Tryd.prog 164 (some ⟨4, 40, (.agg [.nptr, .nptr, .nptr, (.str [])]), (.strct [(0, 17, 1), (1, 17, 1), (2, 17, 1), (3, 9, 1)]), []⟩) := fun ti h => by cases h; exact ⟨y164, .inl rfl⟩
theorem y165 : mkTI Tryd.prog 165 = some ⟨4, 40, (.agg [.nptr, .nptr, .nptr, (.str [])]), (.strct [(0, 17, 1), (1, 17, 1), (2, 17, 1), (3, 9, 1)]), []⟩ := by kernel_rfl
theorem q165 : TyQ Tryd.prog 165 (some ⟨4, 40, (.agg [.nptr, .nptr, .nptr, (.str [])]), (.strct [(0, 17, 1), (1, 17, 1), (2, 17, 1), (3, 9, 1)]), []⟩) := fun ti h => by cases h; exact ⟨y165, .inl rfl⟩
theorem y166 : mkTI Tryd.prog 166 = some ⟨0, 0, (.agg []), (.array 0 16), []⟩ := by kernel_rfl
theorem q166 : TyQ Tryd.prog 166 (some ⟨0, 0, (.agg []), (.array 0 16), []⟩) := fun ti h => by cases h; exact ⟨y166, .inl rfl⟩
theorem y167 : mkTI Tryd.prog 167 = some ⟨0, 0, (.agg []), (.strct [(0, 166, 0)]), []⟩ := by kernel_rfl
theorem q167 : TyQ Tryd.prog 167 (some ⟨0, 0, (.agg []), (.strct [(0, 166, 0)]), []⟩) := fun ti h => by cases h; exact ⟨y167, .inl rfl⟩
theorem y168 : mkTI Tryd.prog 168 = some ⟨0, 0, (.agg []), (.strct [(0, 166, 0)]), []⟩ := by kernel_rfl
theorem q168 : TyQ Tryd.prog 168 (some ⟨0, 0, (.agg []), (.strct [(0, 166, 0)]), []⟩) := fun ti h => by cases h; exact ⟨y168, .inl rfl⟩
theorem y169 : mkTI Tryd.prog 169 = some ⟨1, 8, .nfunc, .func, []⟩ := by kernel_rfl
theorem q169 : TyQ Tryd.prog 169 (some ⟨1, 8, .nfunc, .func, []⟩) := fun ti h => by cases h; exact ⟨y169, .inl rfl⟩
theorem y170 : mkTI Tryd.prog 170 = some ⟨1, 1, (.int .u8 0), (.int .u8), []⟩ := by kernel_rfl
theorem q170 : TyQ Tryd.prog 170 (some ⟨1, 1, (.int .u8 0), (.int .u8), []⟩) := fun ti h => by cases h; exact ⟨y170, .inl rfl⟩
theorem y171 : mkTI Tryd.prog 171 = some ⟨1, 1, (.int .u8 0), (.int .u8), []⟩ := by kernel_rfl
theorem q171 : TyQ Tryd.prog 171 (some ⟨1, 1, (.int .u8 0), (.int .u8), []⟩) := fun ti h => by cases h; exact ⟨y171, .inl rfl⟩
theorem y172 : mkTI Tryd.prog 172 = some ⟨1, 8, .nfunc, .func, []⟩ := by kernel_rfl
theorem q172 : TyQ Tryd.prog 172 (some ⟨1, 8, .nfunc, .func, []⟩) := fun ti h => by cases h; exact ⟨y172, .inl rfl⟩
theorem y173 : mkTI Tryd.prog 173 = some ⟨1, 8, .nptr, (.ptr 5), []⟩ := by kernel_rfl
theorem q173 : TyQ Tryd.prog 173 (some ⟨1, 8, .nptr, (.ptr 5), []⟩) := fun ti h => by cases h; exact ⟨y173, .inl rfl⟩
theorem y174 : mkTI Tryd.prog 174 = some ⟨1, 4, (.int .i32 0), (.int .i32), []⟩ := by kernel_rfl
theorem q174 : TyQ Tryd.prog 174 (some ⟨1, 4, (.int .i32 0), (.int .i32), []⟩) := fun ti h => by cases h; exact ⟨y174, .inl rfl⟩
theorem y175 : mkTI Tryd.prog 175 = some ⟨1, 4, (.int .i32 0), (.int .i32), []⟩ := by kernel_rfl
theorem q175 : TyQ Tryd.prog 175 (some ⟨1, 4, (.int .i32 0), (.int .i32), []⟩) := fun ti h => by cases h; exact ⟨y175, .inl rfl⟩
theorem y176 : mkTI Tryd.prog 176 = some ⟨11, 48, (.agg [(.int .u64 0), (.int .u64 0), (.int .u32 0), (.int .u8 0), (.int .u8 0), (.int .u8 0), (.int .u8 0), .nfunc, .nptr, (.int .i32 0), (.int .i32 0)]), (.strct [(0, 12, 1), (1, 12, 1), (2, 155, 1), (3, 170, 1), (4, 5, 1), (5, 5, 1), (6, 171, 1), (7, 172, 1), (8, 173, 1), (9, 174, 1), (10, 175, 1)]), []⟩ := by kernel_rfl
theorem q176 : TyQ Tryd.prog 176 (some ⟨11, 48, (.agg [(.int .u64 0), (.int .u64 0), (.int .u32 0), (.int .u8 0), (.int .u8 0), (.int .u8 0), (.int .u8 0), .nfunc, .nptr, (.int .i32 0), (.int .i32 0)]), (.strct [(0, 12, 1), (1, 12, 1), (2, 155, 1), (3, 170, 1), (4, 5, 1), (5, 5, 1), (6, 171, 1), (7, 172, 1), (8, 173, 1), (9, 174, 1), (10, 175, 1)]), []⟩) := fun ti h => by cases h; exact ⟨y176, .inl rfl⟩
theorem y177 : mkTI Tryd.prog 177 = some ⟨11, 48, (.agg [(.int .u64 0), (.int .u64 0), (.int .u32 0), (.int .u8 0), (.int .u8 0), (.int .u8 0), (.int .u8 0), .nfunc, .nptr, (.int .i32 0), (.int .i32 0)]), (.strct [(0, 12, 1), (1, 12, 1), (2, 155, 1), (3, 170, 1), (4, 5, 1), (5, 5, 1), (6, 171, 1), (7, 172, 1), (8, 173, 1), (9, 174, 1), (10, 175, 1)]), []⟩ := by kernel_rfl
theorem q177 : TyQ Tryd.prog 177 (some ⟨11, 48, (.agg [(.int .u64 0), (.int .u64 0), (.int .u32 0), (.int .u8 0), (.int .u8 0), (.int .u8 0), (.int .u8 0), .nfunc, .nptr, (.int .i32 0), (.int .i32 0)]), (.strct [(0, 12, 1), (1, 12, 1), (2, 155, 1), (3, 170, 1), (4, 5, 1), (5, 5, 1), (6, 171, 1), (7, 172, 1), (8, 173, 1), (9, 174, 1), (10, 175, 1)]), []⟩) := fun ti h => by cases h; exact ⟨y177, .inl rfl⟩
theorem y178 : mkTI Tryd.prog 178 = some ⟨1, 8, .nptr, .other, []⟩ := by kernel_rfl
theorem q178 : TyQ Tryd.prog 178 (some ⟨1, 8, .nptr, .other, []⟩) := fun ti h => by cases h; exact ⟨y178, .inl rfl⟩
theorem g2 : FnQ Tryd.prog 2 (some ff2) := fun fi h => by cases h; kernel_rfl
theorem g3 : FnQ Tryd.prog 3 (some ff3) := fun fi h => by cases h; kernel_rfl
theorem g4 : FnQ Tryd.prog 4 (some ff4) := fun fi h => by cases h; kernel_rfl
theorem g5 : FnQ Tryd.prog 5 (some ff5) := fun fi h => by cases h; kernel_rfl
theorem g6 : FnQ Tryd.prog 6 (some ff6) := fun fi h => by cases h; kernel_rfl
theorem g7 : FnQ Tryd.prog 7 (some ff7) := fun fi h => by cases h; kernel_rfl
theorem g8 : FnQ Tryd.prog 8 (some ff8) := fun fi h => by cases h; kernel_rfl
theorem g9 : FnQ Tryd.prog 9 (some ff9) := fun fi h => by cases h; kernel_rfl
theorem g10 : FnQ Tryd.prog 10 (some ff10) := fun fi h => by cases h; kernel_rfl
theorem g11 : FnQ Tryd.prog 11 (some ff11) := fun fi h => by cases h; kernel_rfl
theorem g12 : FnQ Tryd.prog 12 (some ff12) := fun fi h => by cases h; kernel_rfl
theorem g13 : FnQ Tryd.prog 13 (some ff13) := fun fi h => by cases h; kernel_rfl
theorem g14 : FnQ Tryd.prog 14 (some ff14) := fun fi h => by cases h; kernel_rfl
theorem g15 : FnQ Tryd.prog 15 (some ff15) := fun fi h => by cases h; kernel_rfl
theorem g16 : FnQ Tryd.prog 16 (some ff16) := fun fi h => by cases h; kernel_rfl
theorem g17 : FnQ Tryd.prog 17 (some ff17) := fun fi h => by cases h; kernel_rfl
theorem g18 : FnQ Tryd.prog 18 (some ff18) := fun fi h => by cases h; kernel_rfl
theorem g19 : FnQ Tryd.prog 19 (some ff19) := fun fi h => by cases h; kernel_rfl
theorem g20 : FnQ Tryd.prog 20 (some ff20) := fun fi h => by cases h; kernel_rfl
theorem g21 : FnQ Tryd.prog 21 (some ff21) := fun fi h => by cases h; kernel_rfl
theorem g22 : FnQ Tryd.prog 22 (some ff22) := fun fi h => by cases h; kernel_rfl
theorem g23 : FnQ Tryd.prog 23 (some ff23) := fun fi h => by cases h; kernel_rfl
theorem g24 : FnQ Tryd.prog 24 (some ff24) := fun fi h => by cases h; kernel_rfl
theorem g25 : FnQ Tryd.prog 25 (some ff25) := fun fi h => by cases h; kernel_rfl
theorem g26 : FnQ Tryd.prog 26 (some ff26) := fun fi h => by cases h; kernel_rfl
theorem g27 : FnQ Tryd.prog 27 (some ff27) := fun fi h => by cases h; kernel_rfl
theorem g28 : FnQ Tryd.prog 28 (some ff28) := fun fi h => by cases h; kernel_rfl
theorem g29 : FnQ Tryd.prog 29 (some ff29) := fun fi h => by cases h; kernel_rfl
theorem g30 : FnQ Tryd.prog 30 (some ff30) := fun fi h => by cases h; kernel_rfl
theorem g31 : FnQ Tryd.prog 31 (some ff31) := fun fi h => by cases h; kernel_rfl
theorem g32 : FnQ Tryd.prog 32 (some ff32) := fun fi h => by cases h; kernel_rfl
theorem g33 : FnQ Tryd.prog 33 (some ff33) := fun fi h => by cases h; kernel_rfl
theorem g34 : FnQ Tryd.prog 34 (some ff34) := fun fi h => by cases h; kernel_rfl
theorem g35 : FnQ Tryd.prog 35 (some ff35) := fun fi h => by cases h; kernel_rfl
theorem g36 : FnQ Tryd.prog 36 (some ff36) := fun fi h => by cases h; kernel_rfl
theorem g37 : FnQ Tryd.prog 37 (some ff37) := fun fi h => by cases h; kernel_rfl
theorem g38 : FnQ Tryd.prog 38 (some ff38) := fun fi h => by cases h; kernel_rfl
theorem g39 : FnQ Tryd.prog 39 (some ff39) := fun fi h => by cases h; kernel_rfl
theorem g40 : FnQ Tryd.prog 40 (some ff40) := fun fi h => by cases h; kernel_rfl
theorem g41 : FnQ Tryd.prog 41 (some ff41) := fun fi h => by cases h; kernel_rfl
theorem g42 : FnQ Tryd.prog 42 (some ff42) := fun fi h => by cases h; kernel_rfl
theorem g43 : FnQ Tryd.prog 43 (some ff43) := fun fi h => by cases h; kernel_rfl
theorem g44 : FnQ Tryd.prog 44 (some ff44) := fun fi h => by cases h; kernel_rfl
theorem g45 : FnQ Tryd.prog 45 (some ff45) := fun fi h => by cases h; kernel_rfl
theorem g46 : FnQ Tryd.prog 46 (some ff46) := fun fi h => by cases h; kernel_rfl
theorem g47 : FnQ Tryd.prog 47 (some ff47) := fun fi h => by cases h; kernel_rfl
theorem g48 : FnQ Tryd.prog 48 (some ff48) := fun fi h => by cases h; kernel_rfl
theorem g49 : FnQ Tryd.prog 49 (some ff49) := fun fi h => by cases h; kernel_rfl
theorem g50 : FnQ Tryd.prog 50 (some ff50) := fun fi h => by cases h; kernel_rfl
theorem g51 : FnQ Tryd.prog 51 (some ff51) := fun fi h => by cases h; kernel_rfl
theorem g52 : FnQ Tryd.prog 52 (some ff52) := fun fi h => by cases h; kernel_rfl
theorem g53 : FnQ Tryd.prog 53 (some ff53) := fun fi h => by cases h; kernel_rfl
theorem g54 : FnQ Tryd.prog 54 (some ff54) := fun fi h => by cases h; kernel_rfl
theorem g55 : FnQ Tryd.prog 55 (some ff55) := fun fi h => by cases h; kernel_rfl
theorem g56 : FnQ Tryd.prog 56 (some ff56) := fun fi h => by cases h; kernel_rfl
theorem g57 : FnQ Tryd.prog 57 (some ff57) := fun fi h => by cases h; kernel_rfl
theorem g58 : FnQ Tryd.prog 58 (some ff58) := fun fi h => by cases h; kernel_rfl
theorem g59 : FnQ Tryd.prog 59 (some ff59) := fun fi h => by cases h; kernel_rfl
theorem g60 : FnQ Tryd.prog 60 (some ff60) := fun fi h => by cases h; kernel_rfl
theorem g61 : FnQ Tryd.prog 61 (some ff61) := fun fi h => by cases h; kernel_rfl
theorem g62 : FnQ Tryd.prog 62 (some ff62) := fun fi h => by cases h; kernel_rfl
theorem g63 : FnQ Tryd.prog 63 (some ff63) := fun fi h => by cases h; kernel_rfl
theorem g64 : FnQ Tryd.prog 64 (some ff64) := fun fi h => by cases h; kernel_rfl
theorem g65 : FnQ Tryd.prog 65 (some ff65) := fun fi h => by cases h; kernel_rfl
theorem g66 : FnQ Tryd.prog 66 (some ff66) := fun fi h => by cases h; kernel_rfl
theorem g67 : FnQ Tryd.prog 67 (some ff67) := fun fi h => by cases h; kernel_rfl
theorem g68 : FnQ Tryd.prog 68 (some ff68) := fun fi h => by cases h; kernel_rfl
theorem g69 : FnQ Tryd.prog 69 (some ff69) := fun fi h => by cases h; kernel_rfl
theorem g70 : FnQ Tryd.prog 70 (some ff70) := fun fi h => by cases h; kernel_rfl
theorem g71 : FnQ Tryd.prog 71 (some ff71) := fun fi h => by cases h; kernel_rfl
theorem g72 : FnQ Tryd.prog 72 (some ff72) := fun fi h => by cases h; kernel_rfl
theorem g73 : FnQ Tryd.prog 73 (some ff73) := fun fi h => by cases h; kernel_rfl
theorem g74 : FnQ Tryd.prog 74 (some ff74) := fun fi h => by cases h; kernel_rfl
theorem g75 : FnQ Tryd.prog 75 (some ff75) := fun fi h => by cases h; kernel_rfl
theorem g76 : FnQ Tryd.prog 76 (some ff76) := fun fi h => by cases h; kernel_rfl
theorem g77 : FnQ Tryd.prog 77 (some ff77) := fun fi h => by cases h; kernel_rfl
theorem g78 : FnQ Tryd.prog 78 (some ff78) := fun fi h => by cases h; kernel_rfl
theorem g79 : FnQ Tryd.prog 79 (some ff79) := fun fi h => by cases h; kernel_rfl
theorem g80 : FnQ Tryd.prog 80 (some ff80) := fun fi h => by cases h; kernel_rfl
theorem g81 : FnQ Tryd.prog 81 (some ff81) := fun fi h => by cases h; kernel_rfl
theorem g82 : FnQ Tryd.prog 82 (some ff82) := fun fi h => by cases h; kernel_rfl
theorem g83 : FnQ Tryd.prog 83 (some ff83) := fun fi h => by cases h; kernel_rfl
theorem g84 : FnQ Tryd.prog 84 (some ff84) := fun fi h => by cases h; kernel_rfl
theorem g86 : FnQ Tryd.prog 86 (some ff86) := fun fi h => by cases h; kernel_rfl
theorem g87 : FnQ Tryd.prog 87 (some ff87) := fun fi h => by cases h; kernel_rfl
theorem g88 : FnQ Tryd.prog 88 (some ff88) := fun fi h => by cases h; kernel_rfl
theorem g89 : FnQ Tryd.prog 89 (some ff89) := fun fi h => by cases h; kernel_rfl
theorem g90 : FnQ Tryd.prog 90 (some ff90) := fun fi h => by cases h; kernel_rfl
theorem g91 : FnQ Tryd.prog 91 (some ff91) := fun fi h => by cases h; kernel_rfl
theorem g92 : FnQ Tryd.prog 92 (some ff92) := fun fi h => by cases h; kernel_rfl
theorem g93 : FnQ Tryd.prog 93 (some ff93) := fun fi h => by cases h; kernel_rfl
theorem g94 : FnQ Tryd.prog 94 (some ff94) := fun fi h => by cases h; kernel_rfl
theorem g95 : FnQ Tryd.prog 95 (some ff95) := fun fi h => by cases h; kernel_rfl
theorem g96 : FnQ Tryd.prog 96 (some ff96) := fun fi h => by cases h; kernel_rfl
theorem g97 : FnQ Tryd.prog 97 (some ff97) := fun fi h => by cases h; kernel_rfl
theorem g98 : FnQ Tryd.prog 98 (some ff98) := fun fi h => by cases h; kernel_rfl
theorem g99 : FnQ Tryd.prog 99 (some ff99) := fun fi h => by cases h; kernel_rfl
theorem g100 : FnQ Tryd.prog 100 (some ff100) := fun fi h => by cases h; kernel_rfl
theorem g101 : FnQ Tryd.prog 101 (some ff101) := fun fi h => by cases h; kernel_rfl
theorem g102 : FnQ Tryd.prog 102 (some ff102) := fun fi h => by cases h; kernel_rfl
theorem g103 : FnQ Tryd.prog 103 (some ff103) := fun fi h => by cases h; kernel_rfl
theorem g104 : FnQ Tryd.prog 104 (some ff104) := fun fi h => by cases h; kernel_rfl
theorem g105 : FnQ Tryd.prog 105 (some ff105) := fun fi h => by cases h; kernel_rfl
theorem g106 : FnQ Tryd.prog 106 (some ff106) := fun fi h => by cases h; kernel_rfl
theorem g107 : FnQ Tryd.prog 107 (some ff107) := fun fi h => by cases h; kernel_rfl
theorem g108 : FnQ Tryd.prog 108 (some ff108) := fun fi h => by cases h; kernel_rfl
theorem g109 : FnQ Tryd.prog 109 (some ff109) := fun fi h => by cases h; kernel_rfl
theorem g110 : FnQ Tryd.prog 110 (some ff110) := fun fi h => by cases h; kernel_rfl
theorem g111 : FnQ Tryd.prog 111 (some ff111) := fun fi h => by cases h; kernel_rfl
theorem g112 : FnQ Tryd.prog 112 (some ff112) := fun fi h => by cases h; kernel_rfl
theorem g113 : FnQ Tryd.prog 113 (some ff113) := fun fi h => by cases h; kernel_rfl
theorem g114 : FnQ Tryd.prog 114 (some ff114) := fun fi h => by cases h; kernel_rfl
theorem g116 : FnQ Tryd.prog 116 (some ff116) := fun fi h => by cases h; kernel_rfl
theorem g117 : FnQ Tryd.prog 117 (some ff117) := fun fi h => by cases h; kernel_rfl
theorem g118 : FnQ Tryd.prog 118 (some ff118) := fun fi h => by cases h; kernel_rfl
theorem g119 : FnQ Tryd.prog 119 (some ff119) := fun fi h => by cases h; kernel_rfl
theorem g120 : FnQ Tryd.prog 120 (some ff120) := fun fi h => by cases h; kernel_rfl
theorem g121 : FnQ Tryd.prog 121 (some ff121) := fun fi h => by cases h; kernel_rfl
theorem g122 : FnQ Tryd.prog 122 (some ff122) := fun fi h => by cases h; kernel_rfl
theorem g124 : FnQ Tryd.prog 124 (some ff124) := fun fi h => by cases h; kernel_rfl
theorem g125 : FnQ Tryd.prog 125 (some ff125) := fun fi h => by cases h; kernel_rfl
theorem g126 : FnQ Tryd.prog 126 (some ff126) := fun fi h => by cases h; kernel_rfl
theorem g147 : FnQ Tryd.prog 147 (some ff147) := fun fi h => by cases h; kernel_rfl
theorem n1 (b : Nat) : TyQ Tryd.prog b none := fun _ h => by cases h
theorem n2 (b : Nat) : FnQ Tryd.prog b none := fun _ h => by cases h
theorem tyA : AllT (TyQ Tryd.prog) 8 0 1 ty := ⟨⟨⟨⟨⟨⟨⟨⟨q0, q128⟩, ⟨q64, (n1 _)⟩⟩, ⟨⟨q32, q160⟩, ⟨q96, (n1 _)⟩⟩⟩, ⟨⟨⟨q16, (n1 _)⟩, trivial⟩, ⟨⟨q48, q176⟩, ⟨q112, (n1 _)⟩⟩⟩⟩, ⟨⟨⟨⟨q8, q136⟩, ⟨q72, (n1 _)⟩⟩, ⟨⟨q40, q168⟩, ⟨q104, (n1 _)⟩⟩⟩, ⟨⟨⟨q24, q152⟩, ⟨q88, (n1 _)⟩⟩, ⟨⟨q56, (n1 _)⟩, ⟨q120, (n1 _)⟩⟩⟩⟩⟩, ⟨⟨⟨⟨⟨q4, q132⟩, ⟨q68, (n1 _)⟩⟩, ⟨⟨q36, q164⟩, ⟨q100, (n1 _)⟩⟩⟩, ⟨⟨⟨q20, q148⟩, ⟨q84, (n1 _)⟩⟩, ⟨⟨q52, (n1 _)⟩, ⟨q116, (n1 _)⟩⟩⟩⟩, ⟨⟨⟨⟨q12, q140⟩, ⟨q76, (n1 _)⟩⟩, ⟨⟨q44, q172⟩, ⟨q108, (n1 _)⟩⟩⟩, ⟨⟨⟨q28, (n1 _)⟩, ⟨q92, (n1 _)⟩⟩, ⟨⟨q60, (n1 _)⟩, ⟨q124, (n1 _)⟩⟩⟩⟩⟩⟩, ⟨⟨⟨⟨⟨⟨q2, (n1 _)⟩, ⟨q66, (n1 _)⟩⟩, ⟨⟨q34, q162⟩, ⟨q98, (n1 _)⟩⟩⟩, ⟨⟨⟨q18, q146⟩, ⟨q82, (n1 _)⟩⟩, ⟨⟨q50, q178⟩, ⟨q114, (n1 _)⟩⟩⟩⟩, ⟨⟨⟨⟨q10, q138⟩, ⟨q74, (n1 _)⟩⟩, ⟨⟨q42, q170⟩, ⟨q106, (n1 _)⟩⟩⟩, ⟨⟨⟨q26, q154⟩, ⟨q90, (n1 _)⟩⟩, ⟨⟨q58, (n1 _)⟩, ⟨q122, (n1 _)⟩⟩⟩⟩⟩, ⟨⟨⟨⟨⟨q6, (n1 _)⟩, ⟨q70, (n1 _)⟩⟩, ⟨⟨q38, q166⟩, ⟨q102, (n1 _)⟩⟩⟩, ⟨⟨⟨q22, q150⟩, ⟨q86, (n1 _)⟩⟩, ⟨⟨q54, (n1 _)⟩, ⟨q118, (n1 _)⟩⟩⟩⟩, ⟨⟨⟨⟨q14, q142⟩, ⟨q78, (n1 _)⟩⟩, ⟨⟨(n1 _), q174⟩, ⟨q110, (n1 _)⟩⟩⟩, ⟨⟨⟨q30, q158⟩, ⟨q94, (n1 _)⟩⟩, ⟨⟨q62, (n1 _)⟩, ⟨q126, (n1 _)⟩⟩⟩⟩⟩⟩⟩, ⟨⟨⟨⟨⟨⟨⟨q1, q129⟩, ⟨q65, (n1 _)⟩⟩, ⟨⟨(n1 _), q161⟩, ⟨q97, (n1 _)⟩⟩⟩, ⟨⟨⟨q17, q145⟩, ⟨q81, (n1 _)⟩⟩, ⟨⟨(n1 _), q177⟩, ⟨q113, (n1 _)⟩⟩⟩⟩, ⟨⟨⟨⟨q9, q137⟩, ⟨q73, (n1 _)⟩⟩, ⟨⟨q41, q169⟩, trivial⟩⟩, ⟨⟨⟨q25, q153⟩, ⟨q89, (n1 _)⟩⟩, ⟨⟨q57, (n1 _)⟩, trivial⟩⟩⟩⟩, ⟨⟨⟨⟨⟨q5, q133⟩, ⟨q69, (n1 _)⟩⟩, ⟨⟨q37, q165⟩, ⟨q101, (n1 _)⟩⟩⟩, ⟨⟨⟨q21, q149⟩, trivial⟩, ⟨⟨q53, (n1 _)⟩, ⟨q117, (n1 _)⟩⟩⟩⟩, ⟨⟨⟨⟨q13, q141⟩, ⟨q77, (n1 _)⟩⟩, ⟨⟨q45, q173⟩, ⟨q109, (n1 _)⟩⟩⟩, ⟨⟨⟨(n1 _), q157⟩, ⟨q93, (n1 _)⟩⟩, ⟨⟨q61, (n1 _)⟩, ⟨q125, (n1 _)⟩⟩⟩⟩⟩⟩, ⟨⟨⟨⟨⟨⟨q3, q131⟩, ⟨q67, (n1 _)⟩⟩, ⟨⟨(n1 _), q163⟩, ⟨q99, (n1 _)⟩⟩⟩, ⟨⟨⟨q19, (n1 _)⟩, ⟨q83, (n1 _)⟩⟩, ⟨⟨q51, (n1 _)⟩, ⟨q115, (n1 _)⟩⟩⟩⟩, ⟨⟨⟨⟨q11, q139⟩, ⟨q75, (n1 _)⟩⟩, ⟨⟨q43, q171⟩, trivial⟩⟩, ⟨⟨⟨q27, q155⟩, ⟨q91, (n1 _)⟩⟩, ⟨trivial, ⟨q123, (n1 _)⟩⟩⟩⟩⟩, ⟨⟨⟨⟨⟨q7, q135⟩, ⟨q71, (n1 _)⟩⟩, ⟨⟨(n1 _), q167⟩, ⟨q103, (n1 _)⟩⟩⟩, ⟨⟨⟨q23, q151⟩, ⟨q87, (n1 _)⟩⟩, ⟨trivial, ⟨q119, (n1 _)⟩⟩⟩⟩, ⟨⟨⟨⟨q15, q143⟩, ⟨q79, (n1 _)⟩⟩, ⟨⟨q47, q175⟩, ⟨q111, (n1 _)⟩⟩⟩, ⟨⟨⟨q31, q159⟩, ⟨q95, (n1 _)⟩⟩, ⟨⟨q63, (n1 _)⟩, ⟨q127, (n1 _)⟩⟩⟩⟩⟩⟩⟩⟩
theorem fnA : AllT (FnQ Tryd.prog) 8 0 1 fn := ⟨⟨⟨⟨⟨⟨⟨trivial, ⟨g64, (n2 _)⟩⟩, ⟨⟨g32, (n2 _)⟩, ⟨g96, (n2 _)⟩⟩⟩, ⟨⟨⟨g16, (n2 _)⟩, ⟨g80, (n2 _)⟩⟩, ⟨⟨g48, (n2 _)⟩, ⟨g112, (n2 _)⟩⟩⟩⟩, ⟨⟨⟨⟨g8, (n2 _)⟩, ⟨g72, (n2 _)⟩⟩, ⟨⟨g40, (n2 _)⟩, ⟨g104, (n2 _)⟩⟩⟩, ⟨⟨⟨g24, (n2 _)⟩, ⟨g88, (n2 _)⟩⟩, ⟨⟨g56, (n2 _)⟩, ⟨g120, (n2 _)⟩⟩⟩⟩⟩, ⟨⟨⟨⟨⟨g4, (n2 _)⟩, ⟨g68, (n2 _)⟩⟩, ⟨⟨g36, (n2 _)⟩, ⟨g100, (n2 _)⟩⟩⟩, ⟨⟨⟨g20, (n2 _)⟩, ⟨g84, (n2 _)⟩⟩, ⟨⟨g52, (n2 _)⟩, ⟨g116, (n2 _)⟩⟩⟩⟩, ⟨⟨⟨⟨g12, (n2 _)⟩, ⟨g76, (n2 _)⟩⟩, ⟨⟨g44, (n2 _)⟩, ⟨g108, (n2 _)⟩⟩⟩, ⟨⟨⟨g28, (n2 _)⟩, ⟨g92, (n2 _)⟩⟩, ⟨⟨g60, (n2 _)⟩, ⟨g124, (n2 _)⟩⟩⟩⟩⟩⟩, ⟨⟨⟨⟨⟨⟨g2, (n2 _)⟩, ⟨g66, (n2 _)⟩⟩, ⟨⟨g34, (n2 _)⟩, ⟨g98, (n2 _)⟩⟩⟩, ⟨⟨⟨g18, (n2 _)⟩, ⟨g82, (n2 _)⟩⟩, ⟨⟨g50, (n2 _)⟩, ⟨g114, (n2 _)⟩⟩⟩⟩, ⟨⟨⟨⟨g10, (n2 _)⟩, ⟨g74, (n2 _)⟩⟩, ⟨⟨g42, (n2 _)⟩, ⟨g106, (n2 _)⟩⟩⟩, ⟨⟨⟨g26, (n2 _)⟩, ⟨g90, (n2 _)⟩⟩, ⟨⟨g58, (n2 _)⟩, ⟨g122, (n2 _)⟩⟩⟩⟩⟩, ⟨⟨⟨⟨⟨g6, (n2 _)⟩, ⟨g70, (n2 _)⟩⟩, ⟨⟨g38, (n2 _)⟩, ⟨g102, (n2 _)⟩⟩⟩, ⟨⟨⟨g22, (n2 _)⟩, ⟨g86, (n2 _)⟩⟩, ⟨⟨g54, (n2 _)⟩, ⟨g118, (n2 _)⟩⟩⟩⟩, ⟨⟨⟨⟨g14, (n2 _)⟩, ⟨g78, (n2 _)⟩⟩, ⟨⟨g46, (n2 _)⟩, ⟨g110, (n2 _)⟩⟩⟩, ⟨⟨⟨g30, (n2 _)⟩, ⟨g94, (n2 _)⟩⟩, ⟨⟨g62, (n2 _)⟩, ⟨g126, (n2 _)⟩⟩⟩⟩⟩⟩⟩, ⟨⟨⟨⟨⟨⟨trivial, ⟨g65, (n2 _)⟩⟩, ⟨⟨g33, (n2 _)⟩, ⟨g97, (n2 _)⟩⟩⟩, ⟨⟨⟨g17, (n2 _)⟩, ⟨g81, (n2 _)⟩⟩, ⟨⟨g49, (n2 _)⟩, ⟨g113, (n2 _)⟩⟩⟩⟩, ⟨⟨⟨⟨g9, (n2 _)⟩, ⟨g73, (n2 _)⟩⟩, ⟨⟨g41, (n2 _)⟩, ⟨g105, (n2 _)⟩⟩⟩, ⟨⟨⟨g25, (n2 _)⟩, ⟨g89, (n2 _)⟩⟩, ⟨⟨g57, (n2 _)⟩, ⟨g121, (n2 _)⟩⟩⟩⟩⟩, ⟨⟨⟨⟨⟨g5, (n2 _)⟩, ⟨g69, (n2 _)⟩⟩, ⟨⟨g37, (n2 _)⟩, ⟨g101, (n2 _)⟩⟩⟩, ⟨⟨⟨g21, (n2 _)⟩, trivial⟩, ⟨⟨g53, (n2 _)⟩, ⟨g117, (n2 _)⟩⟩⟩⟩, ⟨⟨⟨⟨g13, (n2 _)⟩, ⟨g77, (n2 _)⟩⟩, ⟨⟨g45, (n2 _)⟩, ⟨g109, (n2 _)⟩⟩⟩, ⟨⟨⟨g29, (n2 _)⟩, ⟨g93, (n2 _)⟩⟩, ⟨⟨g61, (n2 _)⟩, ⟨g125, (n2 _)⟩⟩⟩⟩⟩⟩, ⟨⟨⟨⟨⟨⟨g3, (n2 _)⟩, ⟨g67, (n2 _)⟩⟩, ⟨⟨g35, (n2 _)⟩, ⟨g99, (n2 _)⟩⟩⟩, ⟨⟨⟨g19, g147⟩, ⟨g83, (n2 _)⟩⟩, ⟨⟨g51, (n2 _)⟩, trivial⟩⟩⟩, ⟨⟨⟨⟨g11, (n2 _)⟩, ⟨g75, (n2 _)⟩⟩, ⟨⟨g43, (n2 _)⟩, ⟨g107, (n2 _)⟩⟩⟩, ⟨⟨⟨g27, (n2 _)⟩, ⟨g91, (n2 _)⟩⟩, ⟨⟨g59, (n2 _)⟩, trivial⟩⟩⟩⟩, ⟨⟨⟨⟨⟨g7, (n2 _)⟩, ⟨g71, (n2 _)⟩⟩, ⟨⟨g39, (n2 _)⟩, ⟨g103, (n2 _)⟩⟩⟩, ⟨⟨⟨g23, (n2 _)⟩, ⟨g87, (n2 _)⟩⟩, ⟨⟨g55, (n2 _)⟩, ⟨g119, (n2 _)⟩⟩⟩⟩, ⟨⟨⟨⟨g15, (n2 _)⟩, ⟨g79, (n2 _)⟩⟩, ⟨⟨g47, (n2 _)⟩, ⟨g111, (n2 _)⟩⟩⟩, ⟨⟨⟨g31, (n2 _)⟩, ⟨g95, (n2 _)⟩⟩, ⟨⟨g63, (n2 _)⟩, trivial⟩⟩⟩⟩⟩⟩⟩
theorem x85 : ExtQ Tryd.prog 85 (.cnt) := fun args w => run_callFunc_extern (fn := Tryd.f85) (by kernel_rfl) (by kernel_rfl) (by kernel_rfl) (by kernel_rfl) (e := Extern.BytealgCount.count) (by kernel_rfl) args w
theorem x123 : ExtQ Tryd.prog 123 (.idx) := fun args w => run_callFunc_extern (fn := Tryd.f123) (by kernel_rfl) (by kernel_rfl) (by kernel_rfl) (by kernel_rfl) (e := Extern.BytealgIndexByte.indexByte) (by kernel_rfl) args w
theorem xs : ∀ g, ExtQ Tryd.prog g (ext g) := by
  intro g
  unfold ext
  split
  · exact x85
  · exact x123
  · trivial
theorem ok : Ok Tryd.prog pr := ok_of tyA fnA rfl rfl (by kernel_rfl) xs
theorem lb : LibOk Tryd.prog pr := lib_none fun _ => rfl
end Go.Proofs.YtafemfjhflfdeaaDoor.Pt
end
section
namespace Go.Proofs.YtafemfjhflfdeaaDoor
open Go Go.Proofs Go.Eng Go.Run Tab
set_option maxRecDepth 100000
set_option linter.unusedSimpArgs false
set_option linter.unusedVariables false
set_option maxHeartbeats 2000000
set_option linter.defProp false
def H8Fs118 := (And.intro (And.intro @agg143 (And.intro @by143 @inf143)) (And.intro @sz143 (And.intro @zero143 @Tryd.underlying151)))
def H8Fs119 := (And.intro (And.intro @agg3 @fo143_0) (And.intro @inf3 @sz3))
abbrev Wy := Int × ByteArray
def wyC (w : Wy) : List Value := [.int .i64 w.1, .string w.2]
def waysC (l : List Wy) : List Value := l.flatMap wyC
theorem waysC_length (l : List Wy) : (waysC l).length = l.length * 2 := by
  induction l with
  | nil => rfl
  | cons w l ih => rw [waysC, List.flatMap_cons, List.length_append, ← waysC, ih]; simp [wyC]; omega
theorem waysC_drop : ∀ (l : List Wy) (j : Nat), (waysC l).drop (j * 2) = waysC (l.drop j)
  | [], j => by simp [waysC]
  | w :: l, 0 => by simp
  | w :: l, j + 1 => by
    have := waysC_drop l j
    rw [show (j + 1) * 2 = j * 2 + 2 by omega]
    simp only [waysC, List.flatMap_cons, wyC, List.cons_append, List.nil_append, List.drop_succ_cons] at this ⊢
    exact this
theorem waysC_get (l : List Wy) (j : Nat) (hj : j < l.length) : ((waysC l).drop (j * 2)).take 2 = wyC l[j] := by
  rw [waysC_drop, List.drop_eq_getElem_cons hj]
  rfl
def bestW : List Wy → Wy
  | [] => (0, ⟨#[]⟩)
  | x :: xs => xs.foldl (fun o y => if y.1 < o.1 then y else o) x
theorem ways119 (x y : Wy) (h : Eng.Heap) : CallsH Tryd.prog 119 (#[] ++ #[.agg #[.int .i64 x.1, .string x.2], .agg #[.int .i64 y.1, .string y.2]] ++ #[]) h (fun v h' => v = .bool (decide (x.1 < y.1)) ∧ Ext h h') := by
  simp only [Array.append_empty, Array.empty_append]
  (refine CallsH_of_exec Tryd.func119 rfl bod119 ?_; simp only [Tryd.ntmps119, Tryd.results119, coreS, stK_some, splice, Value.cells, Value.oneCell', Nat.reduceAdd, Nat.reduceSub, Nat.reduceMul, Nat.reduceLeDiff, Int.reduceEq, Nat.reduceEqDiff, H8Fs119])
  exact ((Ext.refl h).push _).push _
theorem eltP_eltP {a : Option Addr} {m n : Nat} (hm : m ≠ 0) : eltP (eltP a m) n = eltP a (m + n) := by
  cases a with
  | none => rfl
  | some p =>
    have h : m + n ≠ 0 := by omega
    simp only [eltP, Option.map_some, addA, hm, h, if_false]
    by_cases hn : n = 0
    · subst hn; simp
    · simp only [hn, if_false, Nat.add_assoc]
theorem bestW_next (x : Wy) (xs : List Wy) {i : Nat} (hi : i < xs.length) : bestW (x :: xs.take (i + 1)) = if xs[i].1 < (bestW (x :: xs.take i)).1 then xs[i] else bestW (x :: xs.take i) := by
  rw [List.take_add_one, List.getElem?_eq_getElem hi]
  simp only [bestW, Option.toList_some, List.foldl_append, List.foldl_cons, List.foldl_nil]
  first | rfl | (split <;> simp_all)
theorem best118 (a : Option Addr) (n c : Nat) (l : List Wy) (h : Eng.Heap) (hr : Row h a (waysC l)) (hn : n = l.length) (h1 : 1 ≤ n) (h2 : n ≤ c) (h3 : n ≤ 1000) :
    CallsH Tryd.prog 118 #[.slice a n c, .func (.func 119) #[] #[]] h (fun v h' => v = .agg #[.int .i64 (bestW l).1, .string (bestW l).2] ∧ Ext h h') := by
  obtain ⟨x, xs, rfl⟩ : ∃ x xs, l = x :: xs := by
    cases l with
    | nil => simp at hn; omega
    | cons x xs => exact ⟨x, xs, rfl⟩
  have hsm : a.isSome = true := hr.isSome (by rw [waysC_length]; simp)
  obtain ⟨p, rfl⟩ := Option.isSome_iff_exists.1 hsm
  have c0 : ∀ {hh : Eng.Heap} (y : Ext h hh) (j : Nat) (hj : j < (x :: xs).length), cellsH hh (eltP (some p) (j * 2)) 2 = some [.int .i64 (x :: xs)[j].1, .string (x :: xs)[j].2] := fun y j hj => by
    have := (hr.ext y).cells (j := j * 2) (n := 2) (by rw [waysC_length]; omega) (by omega)
    rw [this, waysC_get _ _ hj]; rfl
  have cx : ∀ {hh : Eng.Heap} (y : Ext h hh), cellsH hh (eltP (some p) 0) 2 = some [.int .i64 x.1, .string x.2] := fun y => c0 y 0 (by simp)
  (refine CallsH_of_exec Tryd.func118 rfl bod118 ?_; simp only [Tryd.ntmps118, Tryd.results118, coreS, stK_some, splice, Value.cells, Value.oneCell', Nat.reduceAdd, Nat.reduceSub, Nat.reduceMul, Nat.reduceLeDiff, Int.reduceEq, Nat.reduceEqDiff, H8Fs118])
  have e0 := (Ext.refl h).push (.cells #[.int .i64 0, .string ByteArray.empty] 143)
  have z0 := push_new (h := h) (o := .cells #[.int .i64 0, .string ByteArray.empty] 143)
  simp only [cx e0, splice, coreS, Value.cells, Value.oneCell', Nat.reduceAdd, Nat.reduceSub, Nat.reduceMul, Nat.reduceLeDiff, Int.reduceEq, Nat.reduceEqDiff, H8Fs118]
  refine ⟨by omega, rfl, ?_⟩
  refine stK_abs pn1 (by simp) fun h3 k1 u3 => ?_
  simp only [splice] at k1
  have k0 := u3.get (push_old (o := .cells #[.int .i64 0, .string ByteArray.empty] 143) z0) (by omega)
  have e1 := u3.ext (e0.push (.cells #[.int .i64 0, .string ByteArray.empty] 143)) (by omega)
  have hxl : n = xs.length + 1 := by rw [hn]; rfl
  have ta : ((n : Int) - 1).toNat = xs.length := by omega
  simp only [ta, coreS, Value.cells, Value.oneCell', Nat.reduceAdd, Nat.reduceSub, Nat.reduceMul, Nat.reduceLeDiff, Int.reduceEq, Nat.reduceEqDiff, H8Fs118]
  refine ⟨by omega, by omega, by omega, by omega, ?_⟩
  refine WP_loopI [7, 14, 15, 16, 17, 18, 19, 20, 21, 22, 23] (fun g h' => ∃ i : Nat, i ≤ xs.length ∧ g 14 = .int .i64 (i : Int) ∧ h'[h.size + 1]? = some (.cells #[.int .i64 (bestW (x :: xs.take i)).1, .string (bestW (x :: xs.take i)).2] 143) ∧ h'[h.size]? = some (.cells #[.int .i64 0, .string ByteArray.empty] 143) ∧ Ext h h') (fun g _ => match g 14 with | .int _ q => xs.length - q.toNat | _ => 0) ⟨0, by omega, rfl, k1, k0, e1⟩ ?_
  rintro g h' ⟨i, hin, hg, g1, g0, y⟩
  by_cases hi : i < xs.length
  · have hcap : ¬ (c : Int) = 1 := by omega
    have hel : eltP (eltP (some p) 2) (i * 2) = eltP (some p) ((i + 1) * 2) := by rw [eltP_eltP (by omega)]; congr 1; omega
    have cy := c0 y (i + 1) (by simp; omega)
    rw [← hel, List.getElem_cons_succ] at cy
    have hs' := lt_of_get g1
    simp only [hg, hcap, if_false, cy, Int.toNat_natCast, Nat.one_mul, splice, coreS, Value.cells, Value.oneCell', Nat.reduceAdd, Nat.reduceSub, Nat.reduceMul, Nat.reduceLeDiff, Int.reduceEq, Nat.reduceEqDiff, H8Fs118]
    refine ⟨fun _ => ⟨⟨by omega, by omega⟩, rfl, ?_⟩, fun hge => absurd hge (by omega)⟩
    refine stK_abs (push_new (h := h') (o := .cells #[.int .i64 0, .string ByteArray.empty] 143)) (by simp) fun h5 g5 u5 => ?_
    simp only [splice] at g5
    have y5 := u5.ext (y.push (.cells #[.int .i64 0, .string ByteArray.empty] 143)) (by have := y.size; omega)
    have j1 := u5.get (push_old (o := .cells #[.int .i64 0, .string ByteArray.empty] 143) g1) (by omega)
    have j0 := u5.get (push_old (o := .cells #[.int .i64 0, .string ByteArray.empty] 143) g0) (by have := y.size; omega)
    simp only [g5, j1, splice, coreS, Value.cells, Value.oneCell', Nat.reduceAdd, Nat.reduceSub, Nat.reduceMul, Nat.reduceLeDiff, Int.reduceEq, Nat.reduceEqDiff, H8Fs118]
    refine CallsH.mono (ways119 xs[i] (bestW (x :: xs.take i)) h5) ?_
    rintro v h6 ⟨rfl, x6⟩
    have hbn := bestW_next x xs hi
    by_cases hlt : xs[i].1 < (bestW (x :: xs.take i)).1
    · rw [if_pos hlt] at hbn
      simp only [hlt, decide_true, x6.get g5, x6.get j1, splice, coreS, Value.cells, Value.oneCell', Nat.reduceAdd, Nat.reduceSub, Nat.reduceMul, Nat.reduceLeDiff, Int.reduceEq, Nat.reduceEqDiff, H8Fs118]
      refine stK_abs (x6.get j1) (by simp) fun h7 g7 u7 => ?_
      simp only [splice] at g7
      simp only [coreS, Value.cells, Value.oneCell', Nat.reduceAdd, Nat.reduceSub, Nat.reduceMul, Nat.reduceLeDiff, Int.reduceEq, Nat.reduceEqDiff, H8Fs118]
      refine ⟨by rw [inK_i64]; omega, roundK_mk (by kernel_rfl) ⟨i + 1, by omega, rfl, by rw [hbn]; exact g7, u7.get (x6.get j0) (by omega), u7.ext (y5.trans x6) (by omega)⟩ ?_⟩
      show xs.length - ((i : Int) + 1).toNat < xs.length - (i : Int).toNat
      omega
    · rw [if_neg hlt] at hbn
      simp only [hlt, decide_false, coreS, Value.cells, Value.oneCell', Nat.reduceAdd, Nat.reduceSub, Nat.reduceMul, Nat.reduceLeDiff, Int.reduceEq, Nat.reduceEqDiff, H8Fs118]
      refine ⟨by rw [inK_i64]; omega, roundK_mk (by kernel_rfl) ⟨i + 1, by omega, rfl, by rw [hbn]; exact x6.get j1, x6.get j0, y5.trans x6⟩ ?_⟩
      show xs.length - ((i : Int) + 1).toNat < xs.length - (i : Int).toNat
      omega
  · obtain rfl : i = xs.length := by omega
    rw [List.take_of_length_le (Nat.le_refl _)] at g1
    simp only [hg, g1, g0, splice, coreS, Value.cells, Value.oneCell', Nat.reduceAdd, Nat.reduceSub, Nat.reduceMul, Nat.reduceLeDiff, Int.reduceEq, Nat.reduceEqDiff, H8Fs118]
    refine ⟨fun hlt => absurd hlt (by omega), fun _ => ?_⟩
    refine stK_abs g0 (by simp) fun h5 g5 u5 => ?_
    simp only [splice] at g5
    simp only [g5, splice, coreS, Value.cells, Value.oneCell', Nat.reduceAdd, Nat.reduceSub, Nat.reduceMul, Nat.reduceLeDiff, Int.reduceEq, Nat.reduceEqDiff, H8Fs118]
    exact u5.ext y (Nat.le_refl _)
end Go.Proofs.YtafemfjhflfdeaaDoor
end
section
namespace Go.Proofs.YtafemfjhflfdeaaDoor
open Go Go.Proofs Go.Eng Go.Run Tab
set_option maxRecDepth 100000
set_option linter.unusedSimpArgs false
set_option linter.unusedVariables false
set_option maxHeartbeats 2000000
def stV (a : OV.Std) : Value := .agg #[.int .i64 (a.1.1 : Int), .int .i64 (a.1.2 : Int), .int .i64 (a.2 : Int)]
theorem e84 (x y : OV.Sp) (W : World) : (Op.equalIn 9999 84 (.agg #[.int .i64 (x.1 : Int), .int .i64 (x.2 : Int)]) (.agg #[.int .i64 (y.1 : Int), .int .i64 (y.2 : Int)])).run Tryd.prog W = .ok (decide (x = y)) W := by
  have hu := Tryd.underlying84
  rw [run_equalIn_struct W 9998 84 _ _ (by simp [Program.fieldsOf, hu]) (by kernel_rfl)]
  have hb := beqF_ints [(x.1 : Int), (x.2 : Int)] [(y.1 : Int), (y.2 : Int)] rfl
  have hd : decide ([(x.1 : Int), (x.2 : Int)] = [(y.1 : Int), (y.2 : Int)]) = decide (x = y) := by
    rw [decide_eq_decide]
    obtain ⟨a, b⟩ := x
    obtain ⟨c, d⟩ := y
    simp
    omega
  rw [hd] at hb
  exact beqF_fields (ι := fun _ => none) 9997 W (i := 0) (sc := [.i, .i]) (by kernel_rfl) (by simpa [Eng.ints] using vl_ints (ι := fun _ => none) [(x.1 : Int), (x.2 : Int)]) (by simpa [Eng.ints] using vl_ints (ι := fun _ => none) [(y.1 : Int), (y.2 : Int)]) hb
theorem p84 (x : OV.Sp) (k : Int) (W : World) : (part 84 #[.int .i64 (x.1 : Int), .int .i64 (x.2 : Int), .int .i64 k] 0).run Tryd.prog W = .ok (.agg #[.int .i64 (x.1 : Int), .int .i64 (x.2 : Int)]) W := by
  obtain ⟨v, hv, hr⟩ := part_sound (P := Tryd.prog) (t := 84) (cs := #[.int .i64 (x.1 : Int), .int .i64 (x.2 : Int), .int .i64 k]) (off := 0) (h := #[]) (K := fun v _ => v = .agg #[.int .i64 (x.1 : Int), .int .i64 (x.2 : Int)]) (by
    unfold partW
    rw [agg84]
    refine ⟨inf84, ?_⟩
    rw [sz84]
    rfl)
  rw [hr, hv]
theorem p3 (x : OV.Sp) (k : Int) (W : World) : (part 3 #[.int .i64 (x.1 : Int), .int .i64 (x.2 : Int), .int .i64 k] 2).run Tryd.prog W = .ok (.int .i64 k) W :=
  run_part_plain (P := Tryd.prog) W (by kernel_rfl) (by rfl)
theorem eq141 (a b : OV.Std) (W : World) : (Op.equal 141 (stV a) (stV b)).run Tryd.prog W = .ok (decide (a = b)) W := by
  have hu := Tryd.underlying141
  show (Op.equalIn 10000 141 (stV a) (stV b)).run Tryd.prog W = _
  unfold stV
  rw [run_equalIn_struct W 9999 141 _ _ (by simp [Program.fieldsOf, hu]) (by kernel_rfl)]
  simp only [Program.fieldsOf, hu]
  have q : (Op.equalIn 9999 3 (.int .i64 (a.2 : Int)) (.int .i64 (b.2 : Int))).run Tryd.prog W = .ok (decide ((a.2 : Int) = b.2)) W := by
    have q0 := sc_run (P := Tryd.prog) (ι := fun _ => none) (u := 3) (c := .i) (x := .int .i64 (a.2 : Int)) (y := .int .i64 (b.2 : Int)) (v := .int .i64 (a.2 : Int)) (w := .int .i64 (b.2 : Int)) (r := beqI (a.2 : Int) (b.2 : Int)) (by kernel_rfl) (by simp only [VR]) (by simp only [VR]) rfl 9998 W
    rw [beqI_eq] at q0
    exact q0
  have n1 : ("span" : String) ≠ "_" := by decide
  have n2 : ("left" : String) ≠ "_" := by decide
  have q2 := e84 a.1 b.1 W
  have hd : decide (a = b) = (decide (a.1 = b.1) && decide ((a.2 : Int) = b.2)) := by
    obtain ⟨a1, a2⟩ := a
    obtain ⟨b1, b2⟩ := b
    simp only [Prod.mk.injEq, Bool.decide_and, Int.ofNat_inj]
  rw [hd]
  by_cases h1 : a.1 = b.1
  · simp only [h1, decide_true] at q2
    simp [Op.eqFields, p84, p3, q2, q, h1, Result.andThen]
    by_cases h2 : (a.2 : Int) = b.2
    · rw [if_pos h2, decide_eq_true h2]
    · rw [if_neg h2, decide_eq_false h2]
  · simp only [h1, decide_false] at q2
    simp [Op.eqFields, p84, p3, q2, q, h1, Result.andThen]
theorem ask141 (a : OV.Std) (W : World) : ∀ (es : OV.Ents) (i : Nat), (Instr.findAsking 141 (stV a) (es.map (entM stV)) i).run Tryd.prog W = .ok (findA a es i) W
  | [], i => by simp [Instr.findAsking, findA]
  | x :: es, i => by
    have q1 := eq141 a x.1 W
    have ih := ask141 a W es (i + 1)
    by_cases hx : a = x.1
    · subst hx
      simp only [decide_true] at q1
      simp [Instr.findAsking, findA, entM, q1, Result.andThen]
    · simp only [hx, decide_false] at q1
      simp [Instr.findAsking, findA, entM, q1, hx, Result.andThen]
      exact ih
theorem check84 (x : OV.Sp) (em : Bool) (W : World) : (Instr.checkKey em 9999 84 (.agg #[.int .i64 (x.1 : Int), .int .i64 (x.2 : Int)])).run Tryd.prog W = .ok () W := by
  have hb := beqF_ints [(x.1 : Int), (x.2 : Int)] [(x.1 : Int), (x.2 : Int)] rfl
  rw [decide_eq_true rfl] at hb
  refine check_agg (ι := fun _ => none) (ti := (Pt.pr.ty 84).getD ⟨0, 0, .any, .other, []⟩) (x := .agg [.int .i64 (x.1 : Int), .int .i64 (x.2 : Int)]) (Pt.ok.tf (by kernel_rfl)) ?_ ?_ em 9997 W
  · simp only [VR]
    exact ⟨_, rfl, by simpa [Eng.ints] using vl_ints (ι := fun _ => none) [(x.1 : Int), (x.2 : Int)]⟩
  · exact hb
theorem check141 (a : OV.Std) (em : Bool) (W : World) : (Instr.checkKey em 10000 141 (stV a)).run Tryd.prog W = .ok () W := by
  have hu := Tryd.underlying141
  have p2 := check84 a.1 em W
  have p4 : (Instr.checkKey em 9999 3 (.int .i64 (a.2 : Int))).run Tryd.prog W = .ok () W := check_sc (c := .i) (by kernel_rfl) em 9998 _ W
  unfold stV
  rw [Instr.checkKey]
  simp only [Sem.run_bind, run_underlying hu, Result.andThen_ok]
  simp [p84, p3, p2, p4, Result.andThen]
theorem stays141 (a : OV.Std) (W : World) : (Instr.keyThatStays (stV a) (stV a)).run Tryd.prog W = .ok (stV a) W := by
  have hb : Instr.sameBits 10000 (stV a) (stV a) = true := by
    unfold stV
    show (_ && (List.all (List.zip _ _) fun (x, y) => Instr.sameBits 9999 x y)) = true
    simp [Instr.sameBits]
  simp [Instr.keyThatStays, hb]
theorem keysS : Keys Tryd.prog 141 stV where
  find a es W := by
    rw [run_findKey_eq W (by rw [Tryd.underlying141])]
    exact ask141 a W es 0
  check a em W := check141 a em W
  stays a W := stays141 a W
end Go.Proofs.YtafemfjhflfdeaaDoor
end
