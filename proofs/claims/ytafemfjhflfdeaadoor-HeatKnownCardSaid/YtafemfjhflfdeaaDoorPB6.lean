/- Texts joined by pack.py: lemmas for YtafemfjhflfdeaaDoorKnown. No condition. -/
import Derived.Test.YtafemfjhflfdeaaDoorPB5
import Derived.KernelRfl
import Derived.Test.YtafemfjhflfdeaaDoorProg
import Derived.LoopNIn
import Derived.RangeFuncIn
import Derived.ProofKit
set_option linter.unusedSimpArgs false
set_option linter.unusedVariables false
set_option linter.defProp false
section
namespace Go.Proofs.YtafemfjhflfdeaaDoor.Pt
open Go Go.Proofs Go.Run
set_option maxRecDepth 100000
noncomputable def ff2 : FI := ⟨match Tryd.f2.body with | some c => c | none => .skip, Tryd.f2.ntmps, Tryd.f2.results.toList⟩
noncomputable def ff3 : FI := ⟨match Tryd.f3.body with | some c => c | none => .skip, Tryd.f3.ntmps, Tryd.f3.results.toList⟩
noncomputable def ff4 : FI := ⟨match Tryd.f4.body with | some c => c | none => .skip, Tryd.f4.ntmps, Tryd.f4.results.toList⟩
noncomputable def ff5 : FI := ⟨match Tryd.f5.body with | some c => c | none => .skip, Tryd.f5.ntmps, Tryd.f5.results.toList⟩
noncomputable def ff6 : FI := ⟨match Tryd.f6.body with | some c => c | none => .skip, Tryd.f6.ntmps, Tryd.f6.results.toList⟩
noncomputable def ff7 : FI := ⟨match Tryd.f7.body with | some c => c | none => .skip, Tryd.f7.ntmps, Tryd.f7.results.toList⟩
noncomputable def ff8 : FI := ⟨match Tryd.f8.body with | some c => c | none => .skip, Tryd.f8.ntmps, Tryd.f8.results.toList⟩
noncomputable def ff9 : FI := ⟨match Tryd.f9.body with | some c => c | none => .skip, Tryd.f9.ntmps, Tryd.f9.results.toList⟩
noncomputable def ff10 : FI := ⟨match Tryd.f10.body with | some c => c | none => .skip, Tryd.f10.ntmps, Tryd.f10.results.toList⟩
noncomputable def ff11 : FI := ⟨match Tryd.f11.body with | some c => c | none => .skip, Tryd.f11.ntmps, Tryd.f11.results.toList⟩
noncomputable def ff12 : FI := ⟨match Tryd.f12.body with | some c => c | none => .skip, Tryd.f12.ntmps, Tryd.f12.results.toList⟩
noncomputable def ff13 : FI := ⟨match Tryd.f13.body with | some c => c | none => .skip, Tryd.f13.ntmps, Tryd.f13.results.toList⟩
noncomputable def ff14 : FI := ⟨match Tryd.f14.body with | some c => c | none => .skip, Tryd.f14.ntmps, Tryd.f14.results.toList⟩
noncomputable def ff15 : FI := ⟨match Tryd.f15.body with | some c => c | none => .skip, Tryd.f15.ntmps, Tryd.f15.results.toList⟩
noncomputable def ff16 : FI := ⟨match Tryd.f16.body with | some c => c | none => .skip, Tryd.f16.ntmps, Tryd.f16.results.toList⟩
noncomputable def ff17 : FI := ⟨match Tryd.f17.body with | some c => c | none => .skip, Tryd.f17.ntmps, Tryd.f17.results.toList⟩
noncomputable def ff18 : FI := ⟨match Tryd.f18.body with | some c => c | none => .skip, Tryd.f18.ntmps, Tryd.f18.results.toList⟩
noncomputable def ff19 : FI := ⟨match Tryd.f19.body with | some c => c | none => .skip, Tryd.f19.ntmps, Tryd.f19.results.toList⟩
noncomputable def ff20 : FI := ⟨match Tryd.f20.body with | some c => c | none => .skip, Tryd.f20.ntmps, Tryd.f20.results.toList⟩
noncomputable def ff21 : FI := ⟨match Tryd.f21.body with | some c => c | none => .skip, Tryd.f21.ntmps, Tryd.f21.results.toList⟩
noncomputable def ff22 : FI := ⟨match Tryd.f22.body with | some c => c | none => .skip, Tryd.f22.ntmps, Tryd.f22.results.toList⟩
noncomputable def ff23 : FI := ⟨match Tryd.f23.body with | some c => c | none => .skip, Tryd.f23.ntmps, Tryd.f23.results.toList⟩
noncomputable def ff24 : FI := ⟨match Tryd.f24.body with | some c => c | none => .skip, Tryd.f24.ntmps, Tryd.f24.results.toList⟩
noncomputable def ff25 : FI := ⟨match Tryd.f25.body with | some c => c | none => .skip, Tryd.f25.ntmps, Tryd.f25.results.toList⟩
noncomputable def ff26 : FI := ⟨match Tryd.f26.body with | some c => c | none => .skip, Tryd.f26.ntmps, Tryd.f26.results.toList⟩
noncomputable def ff27 : FI := ⟨match Tryd.f27.body with | some c => c | none => .skip, Tryd.f27.ntmps, Tryd.f27.results.toList⟩
noncomputable def ff28 : FI := ⟨match Tryd.f28.body with | some c => c | none => .skip, Tryd.f28.ntmps, Tryd.f28.results.toList⟩
noncomputable def ff29 : FI := ⟨match Tryd.f29.body with | some c => c | none => .skip, Tryd.f29.ntmps, Tryd.f29.results.toList⟩
noncomputable def ff30 : FI := ⟨match Tryd.f30.body with | some c => c | none => .skip, Tryd.f30.ntmps, Tryd.f30.results.toList⟩
noncomputable def ff31 : FI := ⟨match Tryd.f31.body with | some c => c | none => .skip, Tryd.f31.ntmps, Tryd.f31.results.toList⟩
noncomputable def ff32 : FI := ⟨match Tryd.f32.body with | some c => c | none => .skip, Tryd.f32.ntmps, Tryd.f32.results.toList⟩
noncomputable def ff33 : FI := ⟨match Tryd.f33.body with | some c => c | none => .skip, Tryd.f33.ntmps, Tryd.f33.results.toList⟩
noncomputable def ff34 : FI := ⟨match Tryd.f34.body with | some c => c | none => .skip, Tryd.f34.ntmps, Tryd.f34.results.toList⟩
noncomputable def ff35 : FI := ⟨match Tryd.f35.body with | some c => c | none => .skip, Tryd.f35.ntmps, Tryd.f35.results.toList⟩
noncomputable def ff36 : FI := ⟨match Tryd.f36.body with | some c => c | none => .skip, Tryd.f36.ntmps, Tryd.f36.results.toList⟩
noncomputable def ff37 : FI := ⟨match Tryd.f37.body with | some c => c | none => .skip, Tryd.f37.ntmps, Tryd.f37.results.toList⟩
noncomputable def ff38 : FI := ⟨match Tryd.f38.body with | some c => c | none => .skip, Tryd.f38.ntmps, Tryd.f38.results.toList⟩
noncomputable def ff39 : FI := ⟨match Tryd.f39.body with | some c => c | none => .skip, Tryd.f39.ntmps, Tryd.f39.results.toList⟩
noncomputable def ff40 : FI := ⟨match Tryd.f40.body with | some c => c | none => .skip, Tryd.f40.ntmps, Tryd.f40.results.toList⟩
noncomputable def ff41 : FI := ⟨match Tryd.f41.body with | some c => c | none => .skip, Tryd.f41.ntmps, Tryd.f41.results.toList⟩
noncomputable def ff42 : FI := ⟨match Tryd.f42.body with | some c => c | none => .skip, Tryd.f42.ntmps, Tryd.f42.results.toList⟩
noncomputable def ff43 : FI := ⟨match Tryd.f43.body with | some c => c | none => .skip, Tryd.f43.ntmps, Tryd.f43.results.toList⟩
noncomputable def ff44 : FI := ⟨match Tryd.f44.body with | some c => c | none => .skip, Tryd.f44.ntmps, Tryd.f44.results.toList⟩
noncomputable def ff45 : FI := ⟨match Tryd.f45.body with | some c => c | none => .skip, Tryd.f45.ntmps, Tryd.f45.results.toList⟩
noncomputable def ff46 : FI := ⟨match Tryd.f46.body with | some c => c | none => .skip, Tryd.f46.ntmps, Tryd.f46.results.toList⟩
noncomputable def ff47 : FI := ⟨match Tryd.f47.body with | some c => c | none => .skip, Tryd.f47.ntmps, Tryd.f47.results.toList⟩
noncomputable def ff48 : FI := ⟨match Tryd.f48.body with | some c => c | none => .skip, Tryd.f48.ntmps, Tryd.f48.results.toList⟩
noncomputable def ff49 : FI := ⟨match Tryd.f49.body with | some c => c | none => .skip, Tryd.f49.ntmps, Tryd.f49.results.toList⟩
noncomputable def ff50 : FI := ⟨match Tryd.f50.body with | some c => c | none => .skip, Tryd.f50.ntmps, Tryd.f50.results.toList⟩
noncomputable def ff51 : FI := ⟨match Tryd.f51.body with | some c => c | none => .skip, Tryd.f51.ntmps, Tryd.f51.results.toList⟩
noncomputable def ff52 : FI := ⟨match Tryd.f52.body with | some c => c | none => .skip, Tryd.f52.ntmps, Tryd.f52.results.toList⟩
noncomputable def ff53 : FI := ⟨match Tryd.f53.body with | some c => c | none => .skip, Tryd.f53.ntmps, Tryd.f53.results.toList⟩
noncomputable def ff54 : FI := ⟨match Tryd.f54.body with | some c => c | none => .skip, Tryd.f54.ntmps, Tryd.f54.results.toList⟩
noncomputable def ff55 : FI := ⟨match Tryd.f55.body with | some c => c | none => .skip, Tryd.f55.ntmps, Tryd.f55.results.toList⟩
noncomputable def ff56 : FI := ⟨match Tryd.f56.body with | some c => c | none => .skip, Tryd.f56.ntmps, Tryd.f56.results.toList⟩
noncomputable def ff57 : FI := ⟨match Tryd.f57.body with | some c => c | none => .skip, Tryd.f57.ntmps, Tryd.f57.results.toList⟩
noncomputable def ff58 : FI := ⟨match Tryd.f58.body with | some c => c | none => .skip, Tryd.f58.ntmps, Tryd.f58.results.toList⟩
noncomputable def ff59 : FI := ⟨match Tryd.f59.body with | some c => c | none => .skip, Tryd.f59.ntmps, Tryd.f59.results.toList⟩
noncomputable def ff60 : FI := ⟨match Tryd.f60.body with | some c => c | none => .skip, Tryd.f60.ntmps, Tryd.f60.results.toList⟩
noncomputable def ff61 : FI := ⟨match Tryd.f61.body with | some c => c | none => .skip, Tryd.f61.ntmps, Tryd.f61.results.toList⟩
noncomputable def ff62 : FI := ⟨match Tryd.f62.body with | some c => c | none => .skip, Tryd.f62.ntmps, Tryd.f62.results.toList⟩
noncomputable def ff63 : FI := ⟨match Tryd.f63.body with | some c => c | none => .skip, Tryd.f63.ntmps, Tryd.f63.results.toList⟩
noncomputable def ff64 : FI := ⟨match Tryd.f64.body with | some c => c | none => .skip, Tryd.f64.ntmps, Tryd.f64.results.toList⟩
noncomputable def ff65 : FI := ⟨match Tryd.f65.body with | some c => c | none => .skip, Tryd.f65.ntmps, Tryd.f65.results.toList⟩
noncomputable def ff66 : FI := ⟨match Tryd.f66.body with | some c => c | none => .skip, Tryd.f66.ntmps, Tryd.f66.results.toList⟩
noncomputable def ff67 : FI := ⟨match Tryd.f67.body with | some c => c | none => .skip, Tryd.f67.ntmps, Tryd.f67.results.toList⟩
noncomputable def ff68 : FI := ⟨match Tryd.f68.body with | some c => c | none => .skip, Tryd.f68.ntmps, Tryd.f68.results.toList⟩
noncomputable def ff69 : FI := ⟨match Tryd.f69.body with | some c => c | none => .skip, Tryd.f69.ntmps, Tryd.f69.results.toList⟩
noncomputable def ff70 : FI := ⟨match Tryd.f70.body with | some c => c | none => .skip, Tryd.f70.ntmps, Tryd.f70.results.toList⟩
noncomputable def ff71 : FI := ⟨match Tryd.f71.body with | some c => c | none => .skip, Tryd.f71.ntmps, Tryd.f71.results.toList⟩
noncomputable def ff72 : FI := ⟨match Tryd.f72.body with | some c => c | none => .skip, Tryd.f72.ntmps, Tryd.f72.results.toList⟩
noncomputable def ff73 : FI := ⟨match Tryd.f73.body with | some c => c | none => .skip, Tryd.f73.ntmps, Tryd.f73.results.toList⟩
noncomputable def ff74 : FI := ⟨match Tryd.f74.body with | some c => c | none => .skip, Tryd.f74.ntmps, Tryd.f74.results.toList⟩
noncomputable def ff75 : FI := ⟨match Tryd.f75.body with | some c => c | none => .skip, Tryd.f75.ntmps, Tryd.f75.results.toList⟩
noncomputable def ff76 : FI := ⟨match Tryd.f76.body with | some c => c | none => .skip, Tryd.f76.ntmps, Tryd.f76.results.toList⟩
noncomputable def ff77 : FI := ⟨match Tryd.f77.body with | some c => c | none => .skip, Tryd.f77.ntmps, Tryd.f77.results.toList⟩
noncomputable def ff78 : FI := ⟨match Tryd.f78.body with | some c => c | none => .skip, Tryd.f78.ntmps, Tryd.f78.results.toList⟩
noncomputable def ff79 : FI := ⟨match Tryd.f79.body with | some c => c | none => .skip, Tryd.f79.ntmps, Tryd.f79.results.toList⟩
noncomputable def ff80 : FI := ⟨match Tryd.f80.body with | some c => c | none => .skip, Tryd.f80.ntmps, Tryd.f80.results.toList⟩
noncomputable def ff81 : FI := ⟨match Tryd.f81.body with | some c => c | none => .skip, Tryd.f81.ntmps, Tryd.f81.results.toList⟩
noncomputable def ff82 : FI := ⟨match Tryd.f82.body with | some c => c | none => .skip, Tryd.f82.ntmps, Tryd.f82.results.toList⟩
noncomputable def ff83 : FI := ⟨match Tryd.f83.body with | some c => c | none => .skip, Tryd.f83.ntmps, Tryd.f83.results.toList⟩
noncomputable def ff84 : FI := ⟨match Tryd.f84.body with | some c => c | none => .skip, Tryd.f84.ntmps, Tryd.f84.results.toList⟩
noncomputable def ff86 : FI := ⟨match Tryd.f86.body with | some c => c | none => .skip, Tryd.f86.ntmps, Tryd.f86.results.toList⟩
noncomputable def ff87 : FI := ⟨match Tryd.f87.body with | some c => c | none => .skip, Tryd.f87.ntmps, Tryd.f87.results.toList⟩
noncomputable def ff88 : FI := ⟨match Tryd.f88.body with | some c => c | none => .skip, Tryd.f88.ntmps, Tryd.f88.results.toList⟩
noncomputable def ff89 : FI := ⟨match Tryd.f89.body with | some c => c | none => .skip, Tryd.f89.ntmps, Tryd.f89.results.toList⟩
noncomputable def ff90 : FI := ⟨match Tryd.f90.body with | some c => c | none => .skip, Tryd.f90.ntmps, Tryd.f90.results.toList⟩
noncomputable def ff91 : FI := ⟨match Tryd.f91.body with | some c => c | none => .skip, Tryd.f91.ntmps, Tryd.f91.results.toList⟩
noncomputable def ff92 : FI := ⟨match Tryd.f92.body with | some c => c | none => .skip, Tryd.f92.ntmps, Tryd.f92.results.toList⟩
noncomputable def ff93 : FI := ⟨match Tryd.f93.body with | some c => c | none => .skip, Tryd.f93.ntmps, Tryd.f93.results.toList⟩
noncomputable def ff94 : FI := ⟨match Tryd.f94.body with | some c => c | none => .skip, Tryd.f94.ntmps, Tryd.f94.results.toList⟩
noncomputable def ff95 : FI := ⟨match Tryd.f95.body with | some c => c | none => .skip, Tryd.f95.ntmps, Tryd.f95.results.toList⟩
noncomputable def ff96 : FI := ⟨match Tryd.f96.body with | some c => c | none => .skip, Tryd.f96.ntmps, Tryd.f96.results.toList⟩
noncomputable def ff97 : FI := ⟨match Tryd.f97.body with | some c => c | none => .skip, Tryd.f97.ntmps, Tryd.f97.results.toList⟩
noncomputable def ff98 : FI := ⟨match Tryd.f98.body with | some c => c | none => .skip, Tryd.f98.ntmps, Tryd.f98.results.toList⟩
noncomputable def ff99 : FI := ⟨match Tryd.f99.body with | some c => c | none => .skip, Tryd.f99.ntmps, Tryd.f99.results.toList⟩
noncomputable def ff100 : FI := ⟨match Tryd.f100.body with | some c => c | none => .skip, Tryd.f100.ntmps, Tryd.f100.results.toList⟩
noncomputable def ff101 : FI := ⟨match Tryd.f101.body with | some c => c | none => .skip, Tryd.f101.ntmps, Tryd.f101.results.toList⟩
noncomputable def ff102 : FI := ⟨match Tryd.f102.body with | some c => c | none => .skip, Tryd.f102.ntmps, Tryd.f102.results.toList⟩
noncomputable def ff103 : FI := ⟨match Tryd.f103.body with | some c => c | none => .skip, Tryd.f103.ntmps, Tryd.f103.results.toList⟩
noncomputable def ff104 : FI := ⟨match Tryd.f104.body with | some c => c | none => .skip, Tryd.f104.ntmps, Tryd.f104.results.toList⟩
noncomputable def ff105 : FI := ⟨match Tryd.f105.body with | some c => c | none => .skip, Tryd.f105.ntmps, Tryd.f105.results.toList⟩
noncomputable def ff106 : FI := ⟨match Tryd.f106.body with | some c => c | none => .skip, Tryd.f106.ntmps, Tryd.f106.results.toList⟩
noncomputable def ff107 : FI := ⟨match Tryd.f107.body with | some c => c | none => .skip, Tryd.f107.ntmps, Tryd.f107.results.toList⟩
noncomputable def ff108 : FI := ⟨match Tryd.f108.body with | some c => c | none => .skip, Tryd.f108.ntmps, Tryd.f108.results.toList⟩
noncomputable def ff109 : FI := ⟨match Tryd.f109.body with | some c => c | none => .skip, Tryd.f109.ntmps, Tryd.f109.results.toList⟩
noncomputable def ff110 : FI := ⟨match Tryd.f110.body with | some c => c | none => .skip, Tryd.f110.ntmps, Tryd.f110.results.toList⟩
noncomputable def ff111 : FI := ⟨match Tryd.f111.body with | some c => c | none => .skip, Tryd.f111.ntmps, Tryd.f111.results.toList⟩
noncomputable def ff112 : FI := ⟨match Tryd.f112.body with | some c => c | none => .skip, Tryd.f112.ntmps, Tryd.f112.results.toList⟩
noncomputable def ff113 : FI := ⟨match Tryd.f113.body with | some c => c | none => .skip, Tryd.f113.ntmps, Tryd.f113.results.toList⟩
noncomputable def ff114 : FI := ⟨match Tryd.f114.body with | some c => c | none => .skip, Tryd.f114.ntmps, Tryd.f114.results.toList⟩
noncomputable def ff116 : FI := ⟨match Tryd.f116.body with | some c => c | none => .skip, Tryd.f116.ntmps, Tryd.f116.results.toList⟩
noncomputable def ff117 : FI := ⟨match Tryd.f117.body with | some c => c | none => .skip, Tryd.f117.ntmps, Tryd.f117.results.toList⟩
noncomputable def ff118 : FI := ⟨match Tryd.f118.body with | some c => c | none => .skip, Tryd.f118.ntmps, Tryd.f118.results.toList⟩
noncomputable def ff119 : FI := ⟨match Tryd.f119.body with | some c => c | none => .skip, Tryd.f119.ntmps, Tryd.f119.results.toList⟩
noncomputable def ff120 : FI := ⟨match Tryd.f120.body with | some c => c | none => .skip, Tryd.f120.ntmps, Tryd.f120.results.toList⟩
noncomputable def ff121 : FI := ⟨match Tryd.f121.body with | some c => c | none => .skip, Tryd.f121.ntmps, Tryd.f121.results.toList⟩
noncomputable def ff122 : FI := ⟨match Tryd.f122.body with | some c => c | none => .skip, Tryd.f122.ntmps, Tryd.f122.results.toList⟩
noncomputable def ff124 : FI := ⟨match Tryd.f124.body with | some c => c | none => .skip, Tryd.f124.ntmps, Tryd.f124.results.toList⟩
noncomputable def ff125 : FI := ⟨match Tryd.f125.body with | some c => c | none => .skip, Tryd.f125.ntmps, Tryd.f125.results.toList⟩
noncomputable def ff126 : FI := ⟨match Tryd.f126.body with | some c => c | none => .skip, Tryd.f126.ntmps, Tryd.f126.results.toList⟩
noncomputable def ff147 : FI := ⟨match Tryd.f147.body with | some c => c | none => .skip, Tryd.f147.ntmps, Tryd.f147.results.toList⟩
noncomputable def ty : En (Option TI) := (.node (.node (.node (.node (.node (.node (.node (.node (.leaf (some ⟨1, 0, (.tup []), .other, []⟩)) (.leaf (some ⟨1, 8, .nfunc, .func, []⟩))) (.node (.leaf (some ⟨1, 8, .nfunc, .func, []⟩)) (.leaf none))) (.node (.node (.leaf (some ⟨1, 8, .nfunc, .func, []⟩)) (.leaf (some ⟨2, 2, (.agg [(.int .u8 0), (.int .u8 0)]), (.strct [(0, 5, 1), (1, 5, 1)]), []⟩))) (.node (.leaf (some ⟨16, 128, (.agg (rep 16 [(.int .i64 0)])), (.array 16 3), []⟩)) (.leaf none)))) (.node (.node (.node (.leaf (some ⟨1, 8, .nptr, (.ptr 168), []⟩)) (.leaf none)) (.leaf none)) (.node (.node (.leaf (some ⟨1, 8, .nfunc, .func, []⟩)) (.leaf (some ⟨11, 48, (.agg [(.int .u64 0), (.int .u64 0), (.int .u32 0), (.int .u8 0), (.int .u8 0), (.int .u8 0), (.int .u8 0), .nfunc, .nptr, (.int .i32 0), (.int .i32 0)]), (.strct [(0, 12, 1), (1, 12, 1), (2, 155, 1), (3, 170, 1), (4, 5, 1), (5, 5, 1), (6, 171, 1), (7, 172, 1), (8, 173, 1), (9, 174, 1), (10, 175, 1)]), []⟩))) (.node (.leaf (some ⟨4, 64, (.agg [.nslice, .nslice, (.int .i64 0), (.int .i64 0)]), (.strct [(0, 24, 4)]), []⟩)) (.leaf none))))) (.node (.node (.node (.node (.leaf (some ⟨4, 24, (.agg [(.int .i64 0), (.int .i64 0), (.bool false), (.int .u8 0)]), (.strct [(0, 2, 1), (1, 3, 1), (2, 4, 1), (3, 6, 1)]), []⟩)) (.leaf (some ⟨1, 8, .nfunc, .func, []⟩))) (.node (.leaf (some ⟨1, 8, .nfunc, .func, []⟩)) (.leaf none))) (.node (.node (.leaf (some ⟨1, 8, .nfunc, .func, []⟩)) (.leaf (some ⟨0, 0, (.agg []), (.strct [(0, 166, 0)]), []⟩))) (.node (.leaf (some ⟨1, 8, .nfunc, .func, []⟩)) (.leaf none)))) (.node (.node (.node (.leaf (some ⟨4, 64, (.agg [.nslice, .nslice, (.int .i64 0), (.int .i64 0)]), (.strct [(0, 22, 1), (1, 22, 1), (2, 3, 1), (3, 3, 1)]), []⟩)) (.leaf (some ⟨1, 8, .nfunc, .func, []⟩))) (.node (.leaf (some ⟨1, 8, .nfunc, .func, []⟩)) (.leaf none))) (.node (.node (.leaf (some ⟨1, 8, .nfunc, .func, []⟩)) (.leaf none)) (.node (.leaf (some ⟨1, 8, .nfunc, .func, []⟩)) (.leaf none)))))) (.node (.node (.node (.node (.node (.leaf (some ⟨1, 1, (.bool false), .bool, []⟩)) (.leaf (some ⟨256, 256, (.agg (rep 256 [(.bool false)])), (.array 256 4), []⟩))) (.node (.leaf (some ⟨1, 8, .nfunc, .func, []⟩)) (.leaf none))) (.node (.node (.leaf (some ⟨1, 8, .nfunc, .func, []⟩)) (.leaf (some ⟨4, 40, (.agg [.nptr, .nptr, .nptr, (.str [])]), (.strct [(0, 17, 1), (1, 17, 1), (2, 17, 1), (3, 9, 1)]), []⟩))) (.node (.leaf (some ⟨1, 8, .nfunc, .func, []⟩)) (.leaf none)))) (.node (.node (.node (.leaf (some ⟨1, 16, .niface, .iface, []⟩)) (.leaf (some ⟨1, 8, .nfunc, .func, []⟩))) (.node (.leaf (some ⟨2, 16, (.agg [(.int .i64 0), (.int .i64 0)]), (.strct [(0, 3, 1), (1, 3, 1)]), [.i, .i]⟩)) (.leaf none))) (.node (.node (.leaf (some ⟨1, 8, .nfunc, .func, []⟩)) (.leaf none)) (.node (.leaf (some ⟨1, 8, .nfunc, .func, []⟩)) (.leaf none))))) (.node (.node (.node (.node (.leaf (some ⟨1, 8, (.int .u64 0), (.int .u64), []⟩)) (.leaf (some ⟨3, 24, (.agg [(.int .i64 0), (.int .i64 0), (.int .i64 0)]), (.strct [(0, 84, 2), (2, 3, 1)]), []⟩))) (.node (.leaf (some ⟨1, 8, .nfunc, .func, []⟩)) (.leaf none))) (.node (.node (.leaf (some ⟨2, 16, (.agg [(.int .i64 0), (.int .i64 0)]), (.strct [(0, 2, 1), (1, 2, 1)]), []⟩)) (.leaf (some ⟨1, 8, .nfunc, .func, []⟩))) (.node (.leaf (some ⟨1, 8, .nfunc, .func, []⟩)) (.leaf none)))) (.node (.node (.node (.leaf (some ⟨1, 8, (.int .i64 0), (.int .i64), []⟩)) (.leaf none)) (.node (.leaf (some ⟨1, 8, .nfunc, .func, []⟩)) (.leaf none))) (.node (.node (.leaf (some ⟨1, 8, .nfunc, .func, []⟩)) (.leaf none)) (.node (.leaf (some ⟨1, 8, .nfunc, .func, []⟩)) (.leaf none))))))) (.node (.node (.node (.node (.node (.node (.leaf (some ⟨1, 8, (.int .i64 0), (.int .i64), []⟩)) (.leaf none)) (.node (.leaf (some ⟨1, 8, .nfunc, .func, []⟩)) (.leaf none))) (.node (.node (.leaf (some ⟨1, 8, .nfunc, .func, []⟩)) (.leaf (some ⟨1, 8, .nfunc, .func, []⟩))) (.node (.leaf (some ⟨1, 8, .nfunc, .func, []⟩)) (.leaf none)))) (.node (.node (.node (.leaf (some ⟨1, 8, (.agg [.nptr]), (.strct [(0, 17, 1)]), []⟩)) (.leaf (some ⟨1, 8, .nfunc, .func, []⟩))) (.node (.leaf (some ⟨1, 8, .nfunc, .func, []⟩)) (.leaf none))) (.node (.node (.leaf (some ⟨1, 8, .nfunc, .func, []⟩)) (.leaf (some ⟨1, 8, .nptr, .other, []⟩))) (.node (.leaf (some ⟨1, 8, .nfunc, .func, []⟩)) (.leaf none))))) (.node (.node (.node (.node (.leaf (some ⟨1, 16, (.str []), .string, []⟩)) (.leaf (some ⟨1, 8, .nfunc, .func, []⟩))) (.node (.leaf (some ⟨1, 8, .nfunc, .func, []⟩)) (.leaf none))) (.node (.node (.leaf (some ⟨1, 8, .nfunc, .func, []⟩)) (.leaf (some ⟨1, 1, (.int .u8 0), (.int .u8), []⟩))) (.node (.leaf (some ⟨1, 8, .nfunc, .func, []⟩)) (.leaf none)))) (.node (.node (.node (.leaf (some ⟨1, 8, .nfunc, .func, []⟩)) (.leaf (some ⟨1, 8, .nfunc, .func, []⟩))) (.node (.leaf (some ⟨1, 8, .nfunc, .func, []⟩)) (.leaf none))) (.node (.node (.leaf (some ⟨1, 8, .nfunc, .func, []⟩)) (.leaf none)) (.node (.leaf (some ⟨1, 8, .nfunc, .func, []⟩)) (.leaf none)))))) (.node (.node (.node (.node (.node (.leaf (some ⟨1, 1, (.int .u8 0), (.int .u8), []⟩)) (.leaf none)) (.node (.leaf (some ⟨1, 8, .nfunc, .func, []⟩)) (.leaf none))) (.node (.node (.leaf (some ⟨1, 8, .nfunc, .func, []⟩)) (.leaf (some ⟨0, 0, (.agg []), (.array 0 16), []⟩))) (.node (.leaf (some ⟨1, 8, .nfunc, .func, []⟩)) (.leaf none)))) (.node (.node (.node (.leaf (some ⟨1, 24, .nslice, (.slice 3), []⟩)) (.leaf (some ⟨1, 8, (.int .u64 0), (.int .u64), []⟩))) (.node (.leaf (some ⟨1, 8, .nfunc, .func, []⟩)) (.leaf none))) (.node (.node (.leaf (some ⟨2, 16, (.agg [(.int .i64 0), (.int .i64 0)]), (.strct [(0, 2, 1), (1, 2, 1)]), [.i, .i]⟩)) (.leaf none)) (.node (.leaf (some ⟨1, 8, .nfunc, .func, []⟩)) (.leaf none))))) (.node (.node (.node (.node (.leaf (some ⟨2, 24, (.agg [(.str []), (.int .u64 0)]), (.strct [(0, 9, 1), (1, 12, 1)]), []⟩)) (.leaf (some ⟨2, 24, (.agg [(.int .i64 0), (.str [])]), (.strct [(0, 3, 1), (1, 9, 1)]), []⟩))) (.node (.leaf (some ⟨1, 8, .nfunc, .func, []⟩)) (.leaf none))) (.node (.node (.leaf none) (.leaf (some ⟨1, 4, (.int .i32 0), (.int .i32), []⟩))) (.node (.leaf (some ⟨1, 8, .nfunc, .func, []⟩)) (.leaf none)))) (.node (.node (.node (.leaf (some ⟨1, 8, .nfunc, .func, []⟩)) (.leaf (some ⟨256, 256, (.agg (rep 256 [(.int .u8 0)])), (.array 256 5), []⟩))) (.node (.leaf (some ⟨1, 8, .nfunc, .func, []⟩)) (.leaf none))) (.node (.node (.leaf (some ⟨1, 8, .nfunc, .func, []⟩)) (.leaf none)) (.node (.leaf (some ⟨1, 8, .nfunc, .func, []⟩)) (.leaf none)))))))) (.node (.node (.node (.node (.node (.node (.node (.leaf (some ⟨1, 8, .nfunc, .func, []⟩)) (.leaf (some ⟨1, 8, .nmap, (.map 3 3), []⟩))) (.node (.leaf (some ⟨1, 8, .nfunc, .func, []⟩)) (.leaf none))) (.node (.node (.leaf none) (.leaf (some ⟨32, 32, (.agg (rep 32 [(.int .u8 0)])), (.array 16 160), []⟩))) (.node (.leaf (some ⟨16, 128, (.agg (rep 16 [(.int .i64 0)])), (.array 16 3), (List.replicate 16 .i)⟩)) (.leaf none)))) (.node (.node (.node (.leaf (some ⟨1, 8, .nptr, (.ptr 177), []⟩)) (.leaf (some ⟨1, 8, .nfunc, .func, []⟩))) (.node (.leaf (some ⟨1, 8, .nfunc, .func, []⟩)) (.leaf none))) (.node (.node (.leaf none) (.leaf (some ⟨11, 48, (.agg [(.int .u64 0), (.int .u64 0), (.int .u32 0), (.int .u8 0), (.int .u8 0), (.int .u8 0), (.int .u8 0), .nfunc, .nptr, (.int .i32 0), (.int .i32 0)]), (.strct [(0, 12, 1), (1, 12, 1), (2, 155, 1), (3, 170, 1), (4, 5, 1), (5, 5, 1), (6, 171, 1), (7, 172, 1), (8, 173, 1), (9, 174, 1), (10, 175, 1)]), []⟩))) (.node (.leaf (some ⟨1, 8, .nfunc, .func, []⟩)) (.leaf none))))) (.node (.node (.node (.node (.leaf (some ⟨1, 16, (.str []), .string, []⟩)) (.leaf (some ⟨1, 8, .nptr, (.ptr 133), []⟩))) (.node (.leaf (some ⟨1, 8, .nfunc, .func, []⟩)) (.leaf none))) (.node (.node (.leaf (some ⟨1, 8, .nfunc, .func, []⟩)) (.leaf (some ⟨1, 8, .nfunc, .func, []⟩))) (.leaf none))) (.node (.node (.node (.leaf (some ⟨1, 8, .nfunc, .func, []⟩)) (.leaf (some ⟨1, 8, .nfunc, .func, []⟩))) (.node (.leaf (some ⟨1, 8, .nfunc, .func, []⟩)) (.leaf none))) (.node (.node (.leaf (some ⟨1, 8, .nfunc, .func, []⟩)) (.leaf none)) (.leaf none))))) (.node (.node (.node (.node (.node (.leaf (some ⟨1, 1, (.int .u8 0), (.int .u8), []⟩)) (.leaf (some ⟨256, 256, (.agg (rep 256 [(.bool false)])), (.array 256 4), []⟩))) (.node (.leaf (some ⟨1, 8, .nfunc, .func, []⟩)) (.leaf none))) (.node (.node (.leaf (some ⟨1, 8, .nfunc, .func, []⟩)) (.leaf (some ⟨4, 40, (.agg [.nptr, .nptr, .nptr, (.str [])]), (.strct [(0, 17, 1), (1, 17, 1), (2, 17, 1), (3, 9, 1)]), []⟩))) (.node (.leaf (some ⟨1, 8, .nfunc, .func, []⟩)) (.leaf none)))) (.node (.node (.node (.leaf (some ⟨1, 4, (.int .i32 0), (.int .i32), []⟩)) (.leaf (some ⟨1, 8, .nfunc, .func, []⟩))) (.leaf none)) (.node (.node (.leaf (some ⟨2, 16, (.agg [(.int .i64 0), (.int .i64 0)]), (.strct [(0, 2, 1), (1, 2, 1)]), []⟩)) (.leaf none)) (.node (.leaf (some ⟨1, 8, .nfunc, .func, []⟩)) (.leaf none))))) (.node (.node (.node (.node (.leaf (some ⟨2, 24, (.agg [(.str []), (.int .u64 0)]), (.strct [(0, 9, 1), (1, 12, 1)]), []⟩)) (.leaf (some ⟨3, 24, (.agg [(.int .i64 0), (.int .i64 0), (.int .i64 0)]), (.strct [(0, 84, 2), (2, 3, 1)]), []⟩))) (.node (.leaf (some ⟨1, 8, .nfunc, .func, []⟩)) (.leaf none))) (.node (.node (.leaf (some ⟨2, 16, (.agg [(.int .i64 0), (.int .i64 0)]), (.strct [(0, 2, 1), (1, 2, 1)]), [.i, .i]⟩)) (.leaf (some ⟨1, 8, .nptr, (.ptr 5), []⟩))) (.node (.leaf (some ⟨1, 8, .nfunc, .func, []⟩)) (.leaf none)))) (.node (.node (.node (.leaf none) (.leaf (some ⟨1, 8, .nfunc, .func, []⟩))) (.node (.leaf (some ⟨1, 8, .nfunc, .func, []⟩)) (.leaf none))) (.node (.node (.leaf (some ⟨1, 8, .nfunc, .func, []⟩)) (.leaf none)) (.node (.leaf (some ⟨1, 8, .nfunc, .func, []⟩)) (.leaf none))))))) (.node (.node (.node (.node (.node (.node (.leaf (some ⟨1, 8, (.int .i64 0), (.int .i64), []⟩)) (.leaf (some ⟨1, 8, .nfunc, .func, []⟩))) (.node (.leaf (some ⟨1, 8, .nfunc, .func, []⟩)) (.leaf none))) (.node (.node (.leaf none) (.leaf (some ⟨1, 8, .nfunc, .func, []⟩))) (.node (.leaf (some ⟨1, 8, .nfunc, .func, []⟩)) (.leaf none)))) (.node (.node (.node (.leaf (some ⟨1, 8, (.agg [.nptr]), (.strct [(0, 17, 1)]), []⟩)) (.leaf none)) (.node (.leaf (some ⟨2, 16, (.agg [(.int .i64 0), (.int .i64 0)]), (.strct [(0, 3, 1), (1, 3, 1)]), []⟩)) (.leaf none))) (.node (.node (.leaf (some ⟨1, 8, .nfunc, .func, []⟩)) (.leaf none)) (.node (.leaf (some ⟨1, 8, .nfunc, .func, []⟩)) (.leaf none))))) (.node (.node (.node (.node (.leaf (some ⟨1, 16, (.str []), .string, []⟩)) (.leaf (some ⟨1, 8, .nmap, (.map 141 143), []⟩))) (.node (.leaf (some ⟨1, 8, .nfunc, .func, []⟩)) (.leaf none))) (.node (.node (.leaf (some ⟨1, 8, .nfunc, .func, []⟩)) (.leaf (some ⟨1, 1, (.int .u8 0), (.int .u8), []⟩))) (.leaf none))) (.node (.node (.node (.leaf (some ⟨1, 8, .nfunc, .func, []⟩)) (.leaf (some ⟨1, 4, (.int .u32 0), (.int .u32), []⟩))) (.node (.leaf (some ⟨1, 8, .nfunc, .func, []⟩)) (.leaf none))) (.node (.leaf none) (.node (.leaf (some ⟨1, 24, .nslice, (.slice 45), []⟩)) (.leaf none)))))) (.node (.node (.node (.node (.node (.leaf (some ⟨4, 24, (.agg [(.int .i64 0), (.int .i64 0), (.bool false), (.int .u8 0)]), (.strct [(0, 2, 1), (1, 3, 1), (2, 4, 1), (3, 6, 1)]), []⟩)) (.leaf (some ⟨1, 8, .nfunc, .func, []⟩))) (.node (.leaf (some ⟨1, 8, .nfunc, .func, []⟩)) (.leaf none))) (.node (.node (.leaf none) (.leaf (some ⟨0, 0, (.agg []), (.strct [(0, 166, 0)]), []⟩))) (.node (.leaf (some ⟨1, 8, .nfunc, .func, []⟩)) (.leaf none)))) (.node (.node (.node (.leaf (some ⟨4, 64, (.agg [.nslice, .nslice, (.int .i64 0), (.int .i64 0)]), (.strct [(0, 22, 1), (1, 22, 1), (2, 3, 1), (3, 3, 1)]), []⟩)) (.leaf (some ⟨1, 24, .nslice, (.slice 143), []⟩))) (.node (.leaf (some ⟨1, 8, .nfunc, .func, []⟩)) (.leaf none))) (.node (.leaf none) (.node (.leaf (some ⟨1, 8, .nfunc, .func, []⟩)) (.leaf none))))) (.node (.node (.node (.node (.leaf (some ⟨1, 8, .nptr, (.ptr 165), []⟩)) (.leaf (some ⟨2, 24, (.agg [(.int .i64 0), (.str [])]), (.strct [(0, 3, 1), (1, 9, 1)]), []⟩))) (.node (.leaf (some ⟨1, 8, .nptr, (.ptr 112), []⟩)) (.leaf none))) (.node (.node (.leaf (some ⟨1, 8, .nfunc, .func, []⟩)) (.leaf (some ⟨1, 4, (.int .i32 0), (.int .i32), []⟩))) (.node (.leaf (some ⟨4, 64, (.agg [.nslice, .nslice, (.int .i64 0), (.int .i64 0)]), (.strct [(0, 24, 4)]), []⟩)) (.leaf none)))) (.node (.node (.node (.leaf (some ⟨1, 8, .nfunc, .func, []⟩)) (.leaf (some ⟨2, 2, (.agg [(.int .u8 0), (.int .u8 0)]), (.strct [(0, 5, 1), (1, 5, 1)]), []⟩))) (.node (.leaf (some ⟨1, 8, .nfunc, .func, []⟩)) (.leaf none))) (.node (.node (.leaf (some ⟨1, 24, .nslice, (.slice 5), []⟩)) (.leaf none)) (.node (.leaf (some ⟨1, 8, .nfunc, .func, []⟩)) (.leaf none)))))))))
noncomputable def fn : En (Option FI) := (.node (.node (.node (.node (.node (.node (.node (.leaf none) (.node (.leaf (some ff64)) (.leaf none))) (.node (.node (.leaf (some ff32)) (.leaf none)) (.node (.leaf (some ff96)) (.leaf none)))) (.node (.node (.node (.leaf (some ff16)) (.leaf none)) (.node (.leaf (some ff80)) (.leaf none))) (.node (.node (.leaf (some ff48)) (.leaf none)) (.node (.leaf (some ff112)) (.leaf none))))) (.node (.node (.node (.node (.leaf (some ff8)) (.leaf none)) (.node (.leaf (some ff72)) (.leaf none))) (.node (.node (.leaf (some ff40)) (.leaf none)) (.node (.leaf (some ff104)) (.leaf none)))) (.node (.node (.node (.leaf (some ff24)) (.leaf none)) (.node (.leaf (some ff88)) (.leaf none))) (.node (.node (.leaf (some ff56)) (.leaf none)) (.node (.leaf (some ff120)) (.leaf none)))))) (.node (.node (.node (.node (.node (.leaf (some ff4)) (.leaf none)) (.node (.leaf (some ff68)) (.leaf none))) (.node (.node (.leaf (some ff36)) (.leaf none)) (.node (.leaf (some ff100)) (.leaf none)))) (.node (.node (.node (.leaf (some ff20)) (.leaf none)) (.node (.leaf (some ff84)) (.leaf none))) (.node (.node (.leaf (some ff52)) (.leaf none)) (.node (.leaf (some ff116)) (.leaf none))))) (.node (.node (.node (.node (.leaf (some ff12)) (.leaf none)) (.node (.leaf (some ff76)) (.leaf none))) (.node (.node (.leaf (some ff44)) (.leaf none)) (.node (.leaf (some ff108)) (.leaf none)))) (.node (.node (.node (.leaf (some ff28)) (.leaf none)) (.node (.leaf (some ff92)) (.leaf none))) (.node (.node (.leaf (some ff60)) (.leaf none)) (.node (.leaf (some ff124)) (.leaf none))))))) (.node (.node (.node (.node (.node (.node (.leaf (some ff2)) (.leaf none)) (.node (.leaf (some ff66)) (.leaf none))) (.node (.node (.leaf (some ff34)) (.leaf none)) (.node (.leaf (some ff98)) (.leaf none)))) (.node (.node (.node (.leaf (some ff18)) (.leaf none)) (.node (.leaf (some ff82)) (.leaf none))) (.node (.node (.leaf (some ff50)) (.leaf none)) (.node (.leaf (some ff114)) (.leaf none))))) (.node (.node (.node (.node (.leaf (some ff10)) (.leaf none)) (.node (.leaf (some ff74)) (.leaf none))) (.node (.node (.leaf (some ff42)) (.leaf none)) (.node (.leaf (some ff106)) (.leaf none)))) (.node (.node (.node (.leaf (some ff26)) (.leaf none)) (.node (.leaf (some ff90)) (.leaf none))) (.node (.node (.leaf (some ff58)) (.leaf none)) (.node (.leaf (some ff122)) (.leaf none)))))) (.node (.node (.node (.node (.node (.leaf (some ff6)) (.leaf none)) (.node (.leaf (some ff70)) (.leaf none))) (.node (.node (.leaf (some ff38)) (.leaf none)) (.node (.leaf (some ff102)) (.leaf none)))) (.node (.node (.node (.leaf (some ff22)) (.leaf none)) (.node (.leaf (some ff86)) (.leaf none))) (.node (.node (.leaf (some ff54)) (.leaf none)) (.node (.leaf (some ff118)) (.leaf none))))) (.node (.node (.node (.node (.leaf (some ff14)) (.leaf none)) (.node (.leaf (some ff78)) (.leaf none))) (.node (.node (.leaf (some ff46)) (.leaf none)) (.node (.leaf (some ff110)) (.leaf none)))) (.node (.node (.node (.leaf (some ff30)) (.leaf none)) (.node (.leaf (some ff94)) (.leaf none))) (.node (.node (.leaf (some ff62)) (.leaf none)) (.node (.leaf (some ff126)) (.leaf none)))))))) (.node (.node (.node (.node (.node (.node (.leaf none) (.node (.leaf (some ff65)) (.leaf none))) (.node (.node (.leaf (some ff33)) (.leaf none)) (.node (.leaf (some ff97)) (.leaf none)))) (.node (.node (.node (.leaf (some ff17)) (.leaf none)) (.node (.leaf (some ff81)) (.leaf none))) (.node (.node (.leaf (some ff49)) (.leaf none)) (.node (.leaf (some ff113)) (.leaf none))))) (.node (.node (.node (.node (.leaf (some ff9)) (.leaf none)) (.node (.leaf (some ff73)) (.leaf none))) (.node (.node (.leaf (some ff41)) (.leaf none)) (.node (.leaf (some ff105)) (.leaf none)))) (.node (.node (.node (.leaf (some ff25)) (.leaf none)) (.node (.leaf (some ff89)) (.leaf none))) (.node (.node (.leaf (some ff57)) (.leaf none)) (.node (.leaf (some ff121)) (.leaf none)))))) (.node (.node (.node (.node (.node (.leaf (some ff5)) (.leaf none)) (.node (.leaf (some ff69)) (.leaf none))) (.node (.node (.leaf (some ff37)) (.leaf none)) (.node (.leaf (some ff101)) (.leaf none)))) (.node (.node (.node (.leaf (some ff21)) (.leaf none)) (.leaf none)) (.node (.node (.leaf (some ff53)) (.leaf none)) (.node (.leaf (some ff117)) (.leaf none))))) (.node (.node (.node (.node (.leaf (some ff13)) (.leaf none)) (.node (.leaf (some ff77)) (.leaf none))) (.node (.node (.leaf (some ff45)) (.leaf none)) (.node (.leaf (some ff109)) (.leaf none)))) (.node (.node (.node (.leaf (some ff29)) (.leaf none)) (.node (.leaf (some ff93)) (.leaf none))) (.node (.node (.leaf (some ff61)) (.leaf none)) (.node (.leaf (some ff125)) (.leaf none))))))) (.node (.node (.node (.node (.node (.node (.leaf (some ff3)) (.leaf none)) (.node (.leaf (some ff67)) (.leaf none))) (.node (.node (.leaf (some ff35)) (.leaf none)) (.node (.leaf (some ff99)) (.leaf none)))) (.node (.node (.node (.leaf (some ff19)) (.leaf (some ff147))) (.node (.leaf (some ff83)) (.leaf none))) (.node (.node (.leaf (some ff51)) (.leaf none)) (.leaf none)))) (.node (.node (.node (.node (.leaf (some ff11)) (.leaf none)) (.node (.leaf (some ff75)) (.leaf none))) (.node (.node (.leaf (some ff43)) (.leaf none)) (.node (.leaf (some ff107)) (.leaf none)))) (.node (.node (.node (.leaf (some ff27)) (.leaf none)) (.node (.leaf (some ff91)) (.leaf none))) (.node (.node (.leaf (some ff59)) (.leaf none)) (.leaf none))))) (.node (.node (.node (.node (.node (.leaf (some ff7)) (.leaf none)) (.node (.leaf (some ff71)) (.leaf none))) (.node (.node (.leaf (some ff39)) (.leaf none)) (.node (.leaf (some ff103)) (.leaf none)))) (.node (.node (.node (.leaf (some ff23)) (.leaf none)) (.node (.leaf (some ff87)) (.leaf none))) (.node (.node (.leaf (some ff55)) (.leaf none)) (.node (.leaf (some ff119)) (.leaf none))))) (.node (.node (.node (.node (.leaf (some ff15)) (.leaf none)) (.node (.leaf (some ff79)) (.leaf none))) (.node (.node (.leaf (some ff47)) (.leaf none)) (.node (.leaf (some ff111)) (.leaf none)))) (.node (.node (.node (.leaf (some ff31)) (.leaf none)) (.node (.leaf (some ff95)) (.leaf none))) (.node (.node (.leaf (some ff63)) (.leaf none)) (.leaf none))))))))
noncomputable def ext (f : Nat) : X := match f with | 85 => .cnt | 123 => .idx | _ => .no
noncomputable def pr : Pr := ⟨fun t => Run.ite (Nat.ble (Nat.succ t) 256) (En.get (Pa.of 8 t) ty) none, fun f => Run.ite (Nat.ble (Nat.succ f) 256) (En.get (Pa.of 8 f) fn) none, fun _ => 0, ext⟩
end Go.Proofs.YtafemfjhflfdeaaDoor.Pt
end
section
set_option linter.unusedVariables false
set_option linter.unusedSimpArgs false
namespace Go.Run
open Go Go.Eng
section draw
variable {P : Program} {p : Pr} {ι : Io} {s s' : S} {h : Heap} {m : Fm} {e e' : E} {er : Env} {ty : TypeId} {t : T} {K : Value → Heap → Prop} {cf : CallRun}
structure PlanF (all : List Oper) (l : List (Oper × PO)) : Prop where
  dep : ∀ {i : Nat} {x : Oper × PO}, l[i]? = some x → ∀ d ∈ deps x.1, d < i
  kind : ∀ {i : Nat} {x : Oper × PO}, l[i]? = some x → x.2.k = kindOf x.1.op
  lole : ∀ {i : Nat} {x : Oper × PO}, l[i]? = some x → x.2.lo ≤ i
  lo : ∀ {i : Nat} {x : Oper × PO}, l[i]? = some x → x.2.lo = 0 ∨ ∃ (c d : Nat) (y : Oper × PO), x.2.lo = c + 1 ∧ d ∈ deps x.1 ∧ l[d]? = some y ∧ ((y.2.k = 2 ∧ c = d) ∨ y.2.lo = c + 1)
  hi : ∀ {i : Nat} {x : Oper × PO}, l[i]? = some x → l.length ≤ x.2.hi ∨ ∃ (j : Nat) (y : Oper × PO), l[j]? = some y ∧ i ∈ deps y.1 ∧ ((y.2.k = 2 ∧ x.2.hi = j) ∨ y.2.hi = x.2.hi)
  chain : ∀ {i : Nat} {x : Oper × PO}, l[i]? = some x → x.2.k = 2 → ∀ {j : Nat} {y : Oper × PO}, l[j]? = some y → j < i → y.2.k = 2 → j < x.2.lo
  slots : ∀ {i : Nat} {x : Oper × PO}, l[i]? = some x → ∀ {j : Nat} {y : Oper × PO}, l[j]? = some y → i ≠ j → ∀ q, y.1.dst = some q → x.1.dst ≠ some q ∧ (q ∈ looks all x.1 → j ∈ deps x.1 ∨ i ∈ deps y.1)
section plan
variable {all : List Oper} {l : List (Oper × PO)} (F : PlanF all l) {f : Nat → Bool}
noncomputable def Closed (l : List (Oper × PO)) (f : Nat → Bool) : Prop := ∀ i x, l[i]? = some x → f i = true → ∀ d ∈ deps x.1, f d = true
include F
theorem lo_spec (hc : Closed l f) : ∀ (i : Nat) (x : Oper × PO), l[i]? = some x → (∀ d ∈ deps x.1, f d = true) → x.2.lo = 0 ∨ ∃ c y, x.2.lo = c + 1 ∧ l[c]? = some y ∧ y.2.k = 2 ∧ f c = true := by
  intro i
  induction i using Nat.strongRecOn with
  | _ i ih =>
    intro x hx hd
    rcases F.lo hx with h | ⟨c, d, y, h1, h2, h3, h4⟩
    · exact .inl h
    · rcases h4 with ⟨h4, rfl⟩ | h4
      · exact .inr ⟨c, y, h1, h3, h4, hd _ h2⟩
      · have hfd := hd _ h2
        rcases ih d (F.dep hx d h2) y h3 (hc d y h3 hfd) with h5 | ⟨c', y', h5, h6⟩
        · omega
        · obtain rfl : c' = c := by omega
          exact .inr ⟨c', y', h1, h6⟩
theorem before (hc : Closed l f) : ∀ (c : Nat) (x : Oper × PO), l[c]? = some x → x.2.k = 2 → (∀ d ∈ deps x.1, f d = true) → ∀ c' y, l[c']? = some y → c' < c → y.2.k = 2 → f c' = true := by
  intro c
  induction c using Nat.strongRecOn with
  | _ c ih =>
    intro x hx hk hd c' y hy hlt hky
    have h1 := F.chain hx hk hy hlt hky
    have h2 := F.lole hx
    rcases lo_spec F hc c x hx hd with h3 | ⟨c0, z, h3, h4, h5, h6⟩
    · omega
    · by_cases hcc : c' = c0
      · subst hcc; exact h6
      · exact ih c0 (by omega) z h4 h5 (hc c0 z h4 h6) c' y hy (by omega) hky
end plan
noncomputable def recE (rs : List Rec) (ef : E) (i : Nat) : E := match rs[i]? with | some r => r.e | none => ef
noncomputable def recS (rs : List Rec) (sf : S) (i : Nat) : S := match rs[i]? with | some r => r.s | none => sf
noncomputable def eLg (m : Fm) (L : Nat → Bool) : List Rec → Nat → E → E
  | [], _, e => e
  | r :: rs, i, e => eLg m L rs (i + 1) (if L i then putT m e r.o.dst r.t else e)
noncomputable def alsOf (rs : List Rec) : List Rec := rs.filter fun r => r.ob.isSome
theorem alsOf_pos {r : Rec} {rs : List Rec} (h : r.ob.isSome = true) : alsOf (r :: rs) = r :: alsOf rs := by unfold alsOf; simp [h]
theorem alsOf_neg {r : Rec} {rs : List Rec} (h : r.ob = none) : alsOf (r :: rs) = alsOf rs := by unfold alsOf; simp [h]
structure RecF (p : Pr) (m : Fm) (cf : CallRun) (all : List Oper) (x : Oper × PO) (i : Nat) (al : List Rec) (r : Rec) (s' : S) : Prop where
  o : r.o = x.1
  po : r.po = x.2
  fit : ∀ q, r.o.dst = some q → q < m.n
  want : wants m all r.o.guard r.e = some r.w
  skip : r.w = false → r.t = undefT ∧ s' = r.s
  run : r.w = true → r.po.k ≠ 3 → kindRun p m cf r.o r.po.k r.e r.s (act al i r.s) = .ok (r.t, s')
  alc : r.w = true → r.po.k = 3 → ∃ ob, r.ob = some ob ∧ allocRun p m r.o r.e r.b = some (r.t, ob) ∧ s' = r.s
  none : (r.w = false ∨ r.po.k ≠ 3) → r.ob = none
structure Tr (p : Pr) (m : Fm) (cf : CallRun) (all : List Oper) (i0 : Nat) (al : List Rec) (nb : Nat) (l : List (Oper × PO)) (e : E) (s : S) (rs : List Rec) (ef : E) (sf : S) : Prop where
  len : rs.length = l.length
  zero : recS rs sf 0 = s
  get : ∀ i x, l[i]? = some x → ∃ r, rs[i]? = some r ∧ RecF p m cf all x (i0 + i) ((alsOf (rs.take i)).reverse ++ al) r (recS rs sf (i + 1))
  num : ∀ i r, rs[i]? = some r → r.ob.isSome = true → r.b = nb + (alsOf (rs.take i)).length
  cnt : (alsOf rs).length ≤ count3 l
  env : ∀ i b, i ≤ rs.length → recE rs ef i = eLg m (fun j => decide (j < b + i)) rs b e
theorem eLg_none (L : Nat → Bool) : ∀ (rs : List Rec) (b : Nat) (e : E), (∀ j, b ≤ j → L j = false) → eLg m L rs b e = e
  | [], b, e, _ => rfl
  | r :: rs, b, e, h => by
    simp only [eLg, h b (Nat.le_refl _), Bool.false_eq_true, if_false]
    exact eLg_none L rs (b + 1) e fun j hj => h j (by omega)
theorem Tr.cons {all : List Oper} {i0 nb nb' : Nat} {al al' : List Rec} {l : List (Oper × PO)} {x : Oper × PO} {rs : List Rec} {ef : E} {sf s1 : S} {r : Rec} (he : r.e = e) (hs : r.s = s) (H : Tr p m cf all (i0 + 1) al' nb' l (putT m e r.o.dst r.t) s1 rs ef sf) (hr : RecF p m cf all x i0 al r s1)
    (hal : (r.ob.isSome = true ∧ al' = r :: al ∧ nb' = nb + 1 ∧ r.b = nb ∧ x.2.k = 3) ∨ (r.ob = none ∧ al' = al ∧ nb' = nb)) : Tr p m cf all i0 al nb (x :: l) e s (r :: rs) ef sf := by
  have hrev : ∀ i, (alsOf ((r :: rs).take (i + 1))).reverse ++ al = (alsOf (rs.take i)).reverse ++ al' := by
    intro i
    rw [List.take_succ_cons]
    rcases hal with ⟨h1, h2, _⟩ | ⟨h1, h2, _⟩
    · rw [h2, alsOf_pos h1, List.reverse_cons, List.append_assoc]; rfl
    · rw [h2, alsOf_neg h1]
  refine ⟨by simp [H.len], by simp [recS, hs], ?_, ?_, ?_, ?_⟩
  · intro i y hy
    cases i with
    | zero =>
      simp at hy; subst hy
      refine ⟨r, rfl, ?_⟩
      have : recS (r :: rs) sf 1 = s1 := by rw [← H.zero]; simp [recS]
      rw [this]; simpa [alsOf] using hr
    | succ i =>
      obtain ⟨r', h1, h2⟩ := H.get i y (by simpa using hy)
      refine ⟨r', by simpa using h1, ?_⟩
      have : recS (r :: rs) sf (i + 1 + 1) = recS rs sf (i + 1) := by simp [recS]
      rw [this, hrev, show i0 + (i + 1) = i0 + 1 + i by omega]; exact h2
  · intro i r' hi hob
    cases i with
    | zero =>
      simp at hi; subst hi
      rcases hal with ⟨_, _, _, h4, _⟩ | ⟨h1, _⟩
      · simp [alsOf, h4]
      · rw [h1] at hob; cases hob
    | succ i =>
      have h1 := H.num i r' (by simpa using hi) hob
      rw [h1, List.take_succ_cons]
      rcases hal with ⟨g1, _, g3, _⟩ | ⟨g1, _, g3⟩
      · rw [alsOf_pos g1, g3, List.length_cons]; omega
      · rw [alsOf_neg g1, g3]
  · have h1 := H.cnt
    unfold count3
    rcases hal with ⟨g1, _, _, _, g5⟩ | ⟨g1, _⟩
    · rw [alsOf_pos g1, g5]
      have : Nat.beq 3 3 = true := rfl
      rw [this]
      simp only [List.length_cons]
      omega
    · rw [alsOf_neg g1]
      split
      · omega
      · exact h1
  · intro i b hi
    cases i with
    | zero =>
      rw [eLg_none]
      · simp [recE, he]
      · intro j hj; simp; omega
    | succ i =>
      have h1 := H.env i (b + 1) (by simpa using hi)
      have h2 : recE (r :: rs) ef (i + 1) = recE rs ef i := by simp [recE]
      rw [h2, h1]
      simp only [eLg]
      rw [if_pos (by simp)]
      congr 1
      funext j
      congr 1
      simp; omega
noncomputable def Made (P : Program) (ι : Io) (h : Heap) (r : Rec) : Prop := ∃ ob x obr, r.ob = some ob ∧ ι r.b = some x ∧ h[x.r]? = some obr ∧ OR P ι x ob obr ∧ ∀ c y, ι c = some y → y.r = x.r → c = r.b
end draw
end Go.Run
namespace Go.Run
open Go Go.Eng
section draw2
variable {P : Program} {p : Pr} {ι : Io} {s s' : S} {h : Heap} {m : Fm} {e e' : E} {er : Env} {ty : TypeId} {t : T} {K : Value → Heap → Prop} {cf : CallRun}
noncomputable def lis (listed : Array Bool) (j : Nat) : Bool := listed.getD j false
theorem alsOf_succ {rs : List Rec} {i : Nat} {r : Rec} (h : rs[i]? = some r) (ho : r.ob.isSome = true) : (alsOf (rs.take (i + 1))).length = (alsOf (rs.take i)).length + 1 := by
  unfold alsOf
  rw [List.take_add_one, h, List.filter_append]
  simp [ho]
theorem alsOf_mono {rs : List Rec} {i j : Nat} (h : i ≤ j) : (alsOf (rs.take i)).length ≤ (alsOf (rs.take j)).length := by
  unfold alsOf
  have : rs.take i = (rs.take j).take i := by rw [List.take_take, Nat.min_eq_left h]
  rw [this]
  exact ((List.take_sublist i (rs.take j)).filter _).length_le
section num
variable {all : List Oper} {L : List (Oper × PO)} {nb : Nat} {rs : List Rec} {ef : E} {sf : S}
theorem Tr.blt (T : Tr p m cf all 0 [] nb L e s rs ef sf) {i : Nat} {r : Rec} (hi : rs[i]? = some r) (ho : r.ob.isSome = true) : nb ≤ r.b ∧ r.b < nb + count3 L := by
  have h1 := T.num i r hi ho
  have h3 := alsOf_succ hi ho
  have hl := (List.getElem?_eq_some_iff.1 hi).1
  have h4 := alsOf_mono (rs := rs) (show i + 1 ≤ rs.length from hl)
  rw [List.take_length] at h4
  have h5 := T.cnt
  omega
end num
theorem Ste.add {ι1 : Io} {s1 : S} {h1 : Heap} (H : Ste ι s h ι1 s1 h1) {b : Nat} (hn : ι1 b = none) (hb : s.nx ≤ b) {obr : Obj} : Ste ι s h (ι1.put b ⟨h1.size, 0, #[], 0, 0⟩) s1 (h1.push obr) := by
  have hsub := Io.put_sub (x := ⟨h1.size, 0, #[], 0, 0⟩) hn
  refine ⟨fun c x hc => hsub _ _ (H.sub _ _ hc), H.nx, H.low, by rw [Array.size_push]; have := H.size; omega, H.dead, fun c x hc => ?_, H.am, fun r hr hh => ?_⟩
  · unfold Io.put at hc
    split at hc
    · rename_i hcb
      cases hc; subst hcb
      exact .inr ⟨hb, .inl H.size⟩
    · exact H.grow c x hc
  · rw [Array.getElem?_push, if_neg (by have := H.size; omega)]
    exact H.old r hr hh
noncomputable def Fl (P : Program) (rs : List Rec) (f : Nat → Bool) (ι : Io) (s : S) (h : Heap) (q : Nat) : Prop :=
  ∀ i r, rs[i]? = some r → r.ob.isSome = true → q ≤ r.po.hi → s.at r.b = none ∧ r.b < s.nx ∧ (f i = true → Made P ι h r) ∧ (f i = false → ι r.b = none)
structure InvD (P : Program) (m : Fm) (L : List (Oper × PO)) (rs : List Rec) (e : E) (sf : S) (ι : Io) (s : S) (h : Heap) (listed : Array Bool) (er : Env) (h' : Heap) : Prop where
  size : listed.size = L.length
  closed : Closed L (lis listed)
  st : ∃ ι' q, q ≤ L.length ∧ (∀ y, L[q]? = some y → y.2.k = 2 ∧ lis listed q = false) ∧ (∀ j y, j < q → L[j]? = some y → y.2.k = 2 → lis listed j = true) ∧
    Ste ι s h ι' (recS rs sf q) h' ∧ Sim P ι' (recS rs sf q) h' ∧ RE ι' m (eLg m (lis listed) rs 0 e) er ∧ Fl P rs (lis listed) ι' (recS rs sf q) h' q
section main
variable {ops : Array Oper} {pl : List PO} {rs : List Rec} {ef : E} {sf : S}
end main
end draw2
end Go.Run
namespace Go.Run
open Go Go.Eng
section draw3
variable {P : Program} {p : Pr} {ι : Io} {s s' : S} {h : Heap} {m : Fm} {e e' : E} {er : Env} {ty : TypeId} {t : T} {K : Value → Heap → Prop} {cf : CallRun}
variable {ops : Array Oper} {pl : List PO} {rs : List Rec} {ef : E} {sf : S}
noncomputable def exR : Ex → Exit | .normal => .normal | .exit i => .exit i | .goto i => .goto i | .ret => .ret
noncomputable def DL (ι : Io) : List Nat → List Deferred → Prop
  | [], l => l = []
  | b :: ds, l => ∃ y r, ι b = some y ∧ l = { target := .collected y.r, args := #[] } :: r ∧ DL ι ds r
theorem DL.mono {ι ι' : Io} (hs : Sub ι ι') : ∀ {d : List Nat} {l : List Deferred}, DL ι d l → DL ι' d l
  | [], l, h => h
  | b :: ds, l, ⟨y, r, h1, h2, h3⟩ => ⟨y, r, hs _ _ h1, h2, DL.mono hs h3⟩
noncomputable def CP (P : Program) (ι : Io) (s : S) (h : Heap) (m : Fm) (o : Out) : Cont := fun x er dr h' => x = exR o.x ∧ ∃ ι', Ste ι s h ι' o.s h' ∧ Sim P ι' o.s h' ∧ RE ι' m o.e er ∧ DL ι' o.d dr
noncomputable def RO (ι : Io) : Option Nat → Option Nat → Prop
  | none, l => l = none
  | some b, l => ∃ y, ι b = some y ∧ l = some y.r
theorem RO.mono {ι ι' : Io} (hs : Sub ι ι') : ∀ {b : Option Nat} {l : Option Nat}, RO ι b l → RO ι' b l
  | none, l, h => h
  | some b, l, ⟨y, h1, h2⟩ => ⟨y, hs _ _ h1, h2⟩
end draw3
end Go.Run
namespace Go.Run
open Go Go.Eng
section steps
variable {P : Program} {p : Pr} {ι : Io} {s s' : S} {h : Heap} {m : Fm} {e e' : E} {er : Env} {self : CodeRun} {ro : Option Nat} {d : List Nat} {dr : List Deferred} {l : Option Nat} {o : Out}
theorem CP.trans {ι1 : Io} {s1 : S} {h1 : Heap} (H : Sim P ι s h) (q1 : Ste ι s h ι1 s1 h1) {x : Exit} {er' : Env} {dr' : List Deferred} {h2 : Heap} (c : CP P ι1 s1 h1 m o x er' dr' h2) : CP P ι s h m o x er' dr' h2 := by
  obtain ⟨hx, ι', a1, a2, a3, a4⟩ := c
  exact ⟨hx, ι', q1.trans H.fresh a1, a2, a3, a4⟩
section scope
variable {b : Frame} {a : Act} {k : List Item} {cs : List Frame} {w : World}
end scope
end steps
end Go.Run
namespace Go.Run
open Go Go.Eng
section calls
variable {P : Program} {p : Pr} {ι : Io} {s s' : S} {h : Heap} {m : Fm} {e e' : E} {er : Env} {self : CodeRun} {ro : Option Nat} {d : List Nat} {dr : List Deferred} {l : Option Nat} {o : Out} {t : T}
noncomputable def LibOk (P : Program) (p : Pr) : Prop := ∀ g vs s t s', p.lib g ≠ 0 → libT s (p.lib g) vs = some (t, s') → ∀ ι us h, VL ι vs us → Sim P ι s h → CallsH P g us.toArray h (Post P ι s h t s')
end calls
end Go.Run
namespace Go.Run
open Go Go.Eng
section yields
variable {P : Program} {p : Pr} {ι : Io} {s s' : S} {h : Heap} {m : Fm} {e e' : E} {er : Env} {self : CodeRun} {ro : Option Nat} {d : List Nat} {dr : List Deferred} {l : Option Nat} {o : Out} {t : T}
end yields
end Go.Run
namespace Go.Run
open Go Go.Eng
section mapl
variable {P : Program} {p : Pr} {ι : Io} {s s' : S} {h : Heap} {m : Fm} {e e' : E} {er : Env} {self : CodeRun} {ro : Option Nat} {d : List Nat} {dr : List Deferred} {l : Option Nat} {o : Out} {t : T}
noncomputable def keepE (f : Nat → Bool) : List Ent → Nat → List Ent
  | [], _ => []
  | x :: r, j => if f j then keepE f r (j + 1) else x :: keepE f r (j + 1)
noncomputable def Gh (ι ι' : Io) : Prop := ∀ b x, ι b = some x → ∃ y, ι' b = some y ∧ y.r = x.r ∧ y.cap = x.cap
mutual
theorem VR.gh {ι ι' : Io} (hs : Gh ι ι') : ∀ (t : T) {v : Value}, VR ι t v → VR ι' t v
  | .bool b, v, h => by simpa only [VR] using h
  | .int k n, v, h => by simpa only [VR] using h
  | .str s, v, h => by simpa only [VR] using h
  | .nptr, v, h => by simpa only [VR] using h
  | .ptr b o, v, h => by simp only [VR] at *; obtain ⟨x, h1, h2⟩ := h; obtain ⟨y, g1, g2, _⟩ := hs _ _ h1; exact ⟨y, g1, by rw [g2]; exact h2⟩
  | .nslice, v, h => by simpa only [VR] using h
  | .slice b o n c, v, h => by simp only [VR] at *; obtain ⟨x, h1, h2⟩ := h; obtain ⟨y, g1, g2, _⟩ := hs _ _ h1; exact ⟨y, g1, by rw [g2]; exact h2⟩
  | .own b n, v, h => by simp only [VR] at *; obtain ⟨x, h1, h2⟩ := h; obtain ⟨y, g1, g2, g3⟩ := hs _ _ h1; exact ⟨y, g1, by rw [g2, g3]; exact h2⟩
  | .sub b o n, v, h => by simp only [VR] at *; obtain ⟨x, c, h1, h2⟩ := h; obtain ⟨y, g1, g2, _⟩ := hs _ _ h1; exact ⟨y, c, g1, by rw [g2]; exact h2⟩
  | .empty, v, h => by simpa only [VR] using h
  | .nmap, v, h => by simpa only [VR] using h
  | .map b, v, h => by simp only [VR] at *; obtain ⟨x, h1, h2⟩ := h; obtain ⟨y, g1, g2, _⟩ := hs _ _ h1; exact ⟨y, g1, by rw [g2]; exact h2⟩
  | .func f a b, v, h => by
    simp only [VR] at *
    split at h
    · obtain ⟨h1, h2, x, h3, h4⟩ := h; obtain ⟨y, g1, g2, _⟩ := hs _ _ h3; exact ⟨h1, h2, y, g1, by rw [g2]; exact h4⟩
    · obtain ⟨c, d, h1, h2, h3⟩ := h; exact ⟨c, d, h1, VL.gh hs a h2, VL.gh hs b h3⟩
  | .nfunc, v, h => by simpa only [VR] using h
  | .niface, v, h => by simpa only [VR] using h
  | .agg cs, v, h => by simp only [VR] at *; obtain ⟨vs, h1, h2⟩ := h; exact ⟨vs, h1, VL.gh hs cs h2⟩
  | .tup cs, v, h => by simp only [VR] at *; obtain ⟨vs, h1, h2⟩ := h; exact ⟨vs, h1, VL.gh hs cs h2⟩
  | .any, v, h => by simp only [VR]
theorem VL.gh {ι ι' : Io} (hs : Gh ι ι') : ∀ (ts : List T) {vs : List Value}, VL ι ts vs → VL ι' ts vs
  | [], vs, h => by simpa only [VL] using h
  | c :: cs, vs, h => by
    simp only [VL] at *
    obtain ⟨v, rest, h1, h2, h3⟩ := h
    exact ⟨v, rest, h1, VR.gh hs c h2, VL.gh hs cs h3⟩
end
mutual
/-- What a value stood for is known: then what it stands for later is known there. -/
theorem VR.back {ι ι' : Io} (hs : Gh ι ι') : ∀ (t : T) {v0 v : Value}, VR ι t v0 → VR ι' t v → VR ι t v
  | .bool b, v0, v, h0, h => by simpa only [VR] using h
  | .int k n, v0, v, h0, h => by simpa only [VR] using h
  | .str s, v0, v, h0, h => by simpa only [VR] using h
  | .nptr, v0, v, h0, h => by simpa only [VR] using h
  | .ptr b o, v0, v, h0, h => by
    simp only [VR] at *; obtain ⟨x, h1, _⟩ := h0; obtain ⟨x', h3, h4⟩ := h; obtain ⟨y, g1, g2, _⟩ := hs _ _ h1; rw [g1] at h3; cases h3; exact ⟨x, h1, by rw [← g2]; exact h4⟩
  | .nslice, v0, v, h0, h => by simpa only [VR] using h
  | .slice b o n c, v0, v, h0, h => by
    simp only [VR] at *; obtain ⟨x, h1, _⟩ := h0; obtain ⟨x', h3, h4⟩ := h; obtain ⟨y, g1, g2, _⟩ := hs _ _ h1; rw [g1] at h3; cases h3; exact ⟨x, h1, by rw [← g2]; exact h4⟩
  | .own b n, v0, v, h0, h => by
    simp only [VR] at *; obtain ⟨x, h1, _⟩ := h0; obtain ⟨x', h3, h4⟩ := h; obtain ⟨y, g1, g2, g3⟩ := hs _ _ h1; rw [g1] at h3; cases h3; exact ⟨x, h1, by rw [← g2, ← g3]; exact h4⟩
  | .sub b o n, v0, v, h0, h => by
    simp only [VR] at *; obtain ⟨x, c, h1, _⟩ := h0; obtain ⟨x', c', h3, h4⟩ := h; obtain ⟨y, g1, g2, _⟩ := hs _ _ h1; rw [g1] at h3; cases h3; exact ⟨x, c', h1, by rw [← g2]; exact h4⟩
  | .empty, v0, v, h0, h => by simpa only [VR] using h
  | .nmap, v0, v, h0, h => by simpa only [VR] using h
  | .map b, v0, v, h0, h => by
    simp only [VR] at *; obtain ⟨x, h1, _⟩ := h0; obtain ⟨x', h3, h4⟩ := h; obtain ⟨y, g1, g2, _⟩ := hs _ _ h1; rw [g1] at h3; cases h3; exact ⟨x, h1, by rw [← g2]; exact h4⟩
  | .func f a b, v0, v, h0, h => by
    cases f <;> simp only [VR] at h0 h ⊢ <;> first
      | (obtain ⟨h1, h2, x', h3, h4⟩ := h; obtain ⟨_, _, x, h5, _⟩ := h0; obtain ⟨y, g1, g2, _⟩ := hs _ _ h5; rw [g1] at h3; cases h3; exact ⟨h1, h2, x, h5, by rw [← g2]; exact h4⟩)
      | (obtain ⟨c, d, h1, h2, h3⟩ := h; obtain ⟨c0, d0, _, h5, h6⟩ := h0; exact ⟨c, d, h1, VL.back hs a h5 h2, VL.back hs b h6 h3⟩)
  | .nfunc, v0, v, h0, h => by simpa only [VR] using h
  | .niface, v0, v, h0, h => by simpa only [VR] using h
  | .agg cs, v0, v, h0, h => by simp only [VR] at *; obtain ⟨vs, h1, h2⟩ := h; obtain ⟨vs0, _, h4⟩ := h0; exact ⟨vs, h1, VL.back hs cs h4 h2⟩
  | .tup cs, v0, v, h0, h => by simp only [VR] at *; obtain ⟨vs, h1, h2⟩ := h; obtain ⟨vs0, _, h4⟩ := h0; exact ⟨vs, h1, VL.back hs cs h4 h2⟩
  | .any, v0, v, h0, h => by simp only [VR]
theorem VL.back {ι ι' : Io} (hs : Gh ι ι') : ∀ (ts : List T) {vs0 vs : List Value}, VL ι ts vs0 → VL ι' ts vs → VL ι ts vs
  | [], vs0, vs, h0, h => by simpa only [VL] using h
  | c :: cs, vs0, vs, h0, h => by
    simp only [VL] at *
    obtain ⟨v0, rest0, _, h2, h3⟩ := h0
    obtain ⟨v, rest, h4, h5, h6⟩ := h
    exact ⟨v, rest, h4, VR.back hs c h2 h5, VL.back hs cs h3 h6⟩
end
theorem EL.gh {ι ι' : Io} (hs : Gh ι ι') : ∀ {xs : List Ent} {l : List MapEntry}, EL ι xs l → EL ι' xs l
  | [], l, h => h
  | x :: xs, l, ⟨e, r, h1, h2, h3⟩ => ⟨e, r, h1, ⟨VR.gh hs _ h2.1, VR.gh hs _ h2.2.1, h2.2.2⟩, EL.gh hs h3⟩
theorem RE.gh {ι ι' : Io} (hs : Gh ι ι') (re : RE ι m e er) : RE ι' m e er := ⟨re.len, re.fit, fun i hi => VR.gh hs _ (re.get i hi)⟩
theorem DL.gh {ι ι' : Io} (hs : Gh ι ι') : ∀ {d : List Nat} {l : List Deferred}, DL ι d l → DL ι' d l
  | [], l, h => h
  | b :: ds, l, ⟨y, r, h1, h2, h3⟩ => by
    obtain ⟨y', g1, g2, _⟩ := hs _ _ h1
    exact ⟨y', r, g1, by rw [g2]; exact h2, DL.gh hs h3⟩
theorem RO.gh {ι ι' : Io} (hs : Gh ι ι') : ∀ {b : Option Nat} {l : Option Nat}, RO ι b l → RO ι' b l
  | none, l, h => h
  | some b, l, ⟨y, h1, h2⟩ => by
    obtain ⟨y', g1, g2, _⟩ := hs _ _ h1
    exact ⟨y', g1, by rw [g2]; exact h2⟩
theorem OR.gh {ι ι' : Io} (hs : Gh ι ι') {x : Inf} : ∀ {o : VO} {ob : Obj}, amO (some o) = false → OR P ι x o ob → OR P ι' x o ob
  | .row cs ct tail, ob, _, ⟨cur, h1, h2, h3, h4⟩ => ⟨cur, h1, h2, VL.gh hs _ h3, h4⟩
  | .ro cs ct, ob, _, ⟨cur, fr, h1, h2, h3⟩ => ⟨cur, fr, h1, h2, VL.gh hs _ h3⟩
  | .map es clock, ob, _, ⟨ents, h1, h2, h3⟩ => ⟨ents, h1, EL.gh hs h2, h3⟩
  | .siter s pos, ob, _, h => h
  | .miter mp since seen last, ob, _, ⟨y, h1, h2⟩ => by
    obtain ⟨y', g1, g2, _⟩ := hs _ _ h1
    exact ⟨y', g1, by rw [g2]; exact h2⟩
  | .loop st pend dp n tm pa asg bd df, ob, _, ⟨fn, tr, y, h1, h2, h3⟩ => by
    obtain ⟨y', g1, g2, _⟩ := hs _ _ h1
    exact ⟨fn, tr, y', g1, by rw [g2]; exact h2, h3.gh hs⟩
  | .defs true, ob, _, h => h
  | .defs false, ob, _, h => h
  | .amap es j del, ob, ha, _ => by simp [amO] at ha
  | .pick mp, ob, ha, _ => by simp [amO] at ha
structure MI (P : Program) (ι : Io) (h0 : Heap) (m : Fm) (es : List Ent) (clock since : Nat) (ym yr : Inf) (D Y : Nat → Bool) (a : Option Tmp) (x0 : Bool) (eb : E) (V : Nat → Bool) (er : Env) (h : Heap) : Prop where
  size : h0.size ≤ h.size
  old : ∀ q, q < h0.size → q ≠ ym.r → q ≠ yr.r → h[q]? = h0[q]?
  it : ∃ seen lastv, h[yr.r]? = some (.mapIter (some ym.r) since seen lastv) ∧ since ≤ lastv ∧ ∀ j x, es[j]? = some x → seen.contains x.2.2 = V j
  mp : ∃ ents, h[ym.r]? = some (.map ents clock) ∧ EL ι (keepE (fun j => V j && D j) es 0) ents.toList
  re : ∃ c : Bool, (c = true ↔ ∃ j, j < es.length ∧ V j = true ∧ Y j = true) ∧ RE ι m (setAcc m a (x0 || c) eb) er
theorem Born.sub {es es' : List Ent} {c : Nat} (hb : Born es c) (hs : es'.Sublist es) : Born es' c := ⟨List.Pairwise.sublist (hs.map _) hb.1, fun x hx => hb.2 x (hs.subset hx)⟩
end mapl
end Go.Run
namespace Go.Run
open Go Go.Eng
section all
variable {P : Program} {p : Pr} {self : CodeRun}
theorem Sim.zero (h : Heap) : Sim P (fun _ => none) s0 h := by
  refine ⟨fun b x hx => (by cases hx), fun b c x y _ _ hx => (by cases hx), fun b o hb => ?_⟩
  simp [s0, S.at, En.get_leaf, ite_eq] at hb
noncomputable def TyQ (P : Program) (t : Nat) (o : Option TI) : Prop := ∀ ti, o = some ti → mkTI P t = some { ti with fl := [] } ∧ (ti.fl = [] ∨ flT P t = ti.fl)
noncomputable def FnQ (P : Program) (f : Nat) (o : Option FI) : Prop := ∀ fi, o = some fi → mkFI P f = some fi
noncomputable def AllT {α : Type} (Q : Nat → Option α → Prop) : Nat → Nat → Nat → En (Option α) → Prop
  | 0, b, _, t => Q b t.lf
  | _ + 1, _, _, .leaf none => True
  | _ + 1, _, _, .leaf (some _) => False
  | d + 1, b, k, .node l r => AllT Q d b (k + k) l ∧ AllT Q d (b + k) (k + k) r
theorem AllT.get {α : Type} {Q : Nat → Option α → Prop} (hn : ∀ b, Q b none) : ∀ {d b k : Nat} {tr : En (Option α)}, AllT Q d b k tr → ∀ t, t < 2 ^ d → Q (b + k * t) (En.get (Pa.of d t) tr)
  | 0, b, k, tr, h, t, ht => by
    have : t = 0 := by simp at ht; omega
    subst this
    exact h
  | d + 1, b, k, .leaf none, h, t, ht => by rw [En.get_leaf]; exact hn _
  | d + 1, b, k, .leaf (some v), h, t, ht => h.elim
  | d + 1, b, k, .node l r, h, t, ht => by
    rw [Nat.pow_succ] at ht
    rw [Pa.of_succ]
    split
    · rename_i h0
      rw [En.get_o]
      have := AllT.get hn h.1 (t / 2) (by omega)
      have e1 : b + (k + k) * (t / 2) = b + k * t := by
        obtain ⟨q, rfl⟩ : ∃ q, t = 2 * q := ⟨t / 2, by omega⟩
        rw [Nat.mul_div_cancel_left _ (by omega), ← Nat.two_mul, Nat.mul_comm 2 k, Nat.mul_assoc]
      rw [e1] at this
      exact this
    · rename_i h0
      rw [En.get_i]
      have := AllT.get hn h.2 (t / 2) (by omega)
      have e1 : b + k + (k + k) * (t / 2) = b + k * t := by
        obtain ⟨q, rfl⟩ : ∃ q, t = 2 * q + 1 := ⟨t / 2, by omega⟩
        have : (2 * q + 1) / 2 = q := by omega
        rw [this, ← Nat.two_mul, Nat.mul_comm 2 k, Nat.mul_assoc, Nat.mul_add, Nat.mul_one]
        omega
      rw [e1] at this
      exact this
theorem ok_of {ty : En (Option TI)} {fn : En (Option FI)} {lib : Nat → Nat} {d1 d2 n1 n2 : Nat} (h1 : AllT (TyQ P) d1 0 1 ty) (h2 : AllT (FnQ P) d2 0 1 fn) (hn1 : n1 = 2 ^ d1) (hn2 : n2 = 2 ^ d2) (hm : P.follows .mixedOrders = true) {ext : Nat → X} (he : ∀ g, ExtQ P g (ext g)) :
    Ok P ⟨fun t => ite (Nat.ble (Nat.succ t) n1) (En.get (Pa.of d1 t) ty) none, fun f => ite (Nat.ble (Nat.succ f) n2) (En.get (Pa.of d2 f) fn) none, lib, ext⟩ := by
  refine ⟨he, fun t ti ht => ?_, fun f fi hf => ?_, hm⟩
  · simp only [ite_eq] at ht
    split at ht
    · rename_i hlt
      have hlt := ble_iff.1 hlt
      have := AllT.get (Q := TyQ P) (fun b ti h => by cases h) h1 t (by omega)
      rw [Nat.zero_add, Nat.one_mul] at this
      exact this ti ht
    · cases ht
  · simp only [ite_eq] at hf
    split at hf
    · rename_i hlt
      have hlt := ble_iff.1 hlt
      have := AllT.get (Q := FnQ P) (fun b ti h => by cases h) h2 f (by omega)
      rw [Nat.zero_add, Nat.one_mul] at this
      exact this fi hf
    · cases hf
theorem lib_none (hl : ∀ g, p.lib g = 0) : LibOk P p := fun g _ _ _ _ hg => absurd (hl g) hg
end all
end Go.Run
namespace Go.Run
open Go Go.Eng
noncomputable def runL (self : CodeRun) (m : Fm) (ro : Option Nat) : List Code → E → List Nat → S → Res Out
  | [], e, d, s => .ok ⟨.normal, e, d, s⟩
  | c :: cs, e, d, s => match self m ro c e d s with
    | .ok ⟨.normal, e, d, s⟩ => runL self m ro cs e d s
    | r => r
noncomputable def keepFr (m : Fm) : List Nat → E → E → E
  | [], _, acc => acc
  | t :: ks, e, acc => ite (Nat.ble (Nat.succ t) m.n) (force (seeE m e t) fun v => En.setK (Pa.of m.dp t) v acc fun acc => keepFr m ks e acc) (keepFr m ks e acc)
noncomputable def keepV : List Nat → S → En (Option VO) → En (Option VO)
  | [], _, V => V
  | b :: bs, s, V => ite (Nat.ble b 16383) (En.setK (Pa.of 14 b) (s.at b) V fun V => keepV bs s V) (keepV bs s V)
noncomputable def fromE (m : Fm) : List (Nat × T) → E → E
  | [], acc => acc
  | x :: ks, acc => En.setK (Pa.of m.dp x.1) x.2 acc fun acc => fromE m ks acc
noncomputable def seg (p : Pr) (n : Nat) (m : Fm) (cs : List Code) (ks bs : List Nat) (e : E) (d : List Nat) (s : S) : Option (E × List Nat × S) :=
  match runL (runC p n) m none cs e d s with
  | .ok ⟨.normal, e, d, s⟩ => some (keepFr m ks e (.leaf .any), d, ⟨keepV bs s (.leaf none), s.nx, s.low⟩)
  | _ => none
noncomputable def isEnd : Ex → Bool | .normal => true | .ret => true | _ => false
noncomputable def isTrue : Res (T × S) → Bool | .ok (.bool true, _) => true | _ => false
noncomputable def lastB (p : Pr) (n : Nat) (m : Fm) (rs : List ResultVar) (cs : List Code) (e : E) (d : List Nat) (s : S) : Bool :=
  match runL (runC p n) m none cs e d s with
  | .ok ⟨x, e, d, s⟩ => isEnd x && isTrue (endFn p m rs e d s)
  | _ => false
inductive Chain (p : Pr) (n : Nat) (m : Fm) (rs : List ResultVar) : List Code → E → List Nat → S → Prop
  | last {cs e d s} : lastB p n m rs cs e d s = true → Chain p n m rs cs e d s
  | next {cs e d s e2 d2 s2} (k : Nat) (ks bs : List Nat) : seg p n m (cs.take k) ks bs e d s = some (e2, d2, s2) → Chain p n m rs (cs.drop k) e2 d2 s2 → Chain p n m rs cs e d s
noncomputable def nxK (n : Env → List Deferred → Heap → Prop) (k : Cont) : Cont := fun x e d h => match x with | .normal => n e d h | x => k x e d h
section pieces
variable {P : Program} {p : Pr} {ι : Io} {s s' s2 : S} {h : Heap} {m : Fm} {e e' : E} {er : Env} {self : CodeRun} {ro : Option Nat} {d : List Nat} {dr : List Deferred} {l : Option Nat} {o : Out}
end pieces
end Go.Run
namespace Go.Run
open Go Go.Eng
section rows
variable {P : Program}
theorem kept_of {W W' : World} (x : Ext W.heap W'.heap) (r : Eng.Rest W W') (may : MemPlace → Prop) : W.keptBut W' may := by
  refine ⟨r.os, r.output, fun i hi => ?_⟩
  rw [x.old i hi]
  cases W.heap[i]? with
  | none => rfl
  | some o => cases o <;> first | exact ⟨rfl, rfl, rfl, fun _ _ => rfl⟩ | exact .inr ⟨rfl, rfl⟩ | rfl
theorem post_kept {H : Type} {enc : TypeId × Value → H} {f : Func} {s : ChangeSpec} {apart fresh handsOn : Bool} {W W' : World} {args : Array Value} {v : Value} {ds gs : List (DataW H)} {before pa pv : List MemPlace}
    (hW : DataW.Whole enc P f.params.toList s.vars apart W args.toList ds gs before)
    (hres : ∀ (b : Nat) (sp : Nat → Bool) (hd : Bool), DataW.TrodAll enc P W' b sp hd f.resultTypes.toList (v.resultList f.resultTypes.size) (s.fn H (ds ++ gs)).results [])
    (hargs : ∀ sp : Nat → Bool, (∀ p ∈ before, sp p.block = true) → DataW.TrodAll enc P W' 0 sp true f.params.toList args.toList (s.fn H (ds ++ gs)).args pa)
    (hvars : ∀ sp : Nat → Bool, (∀ p ∈ before, sp p.block = true) → DataW.TrodVars enc P W' sp s.vars (s.fn H (ds ++ gs)).vars pv)
    (hps : before = pa ++ pv) (hk : ∀ may, W.keptBut W' may) : s.post enc P f apart fresh handsOn false W args v W' := by
  have hold : ∀ p ∈ before, (fun b => decide (b < W.heap.size)) p.block = true := fun p hp => by simpa using hW.lt p hp
  exact ⟨ds, gs, before, [], pa, pv, hW, hres _ _ _, hargs _ hold, hvars _ hold, hk _, fun h => (by cases h)⟩
end rows
end Go.Run
end
