/- The types of the program, written out. No condition. -/
import Derived.Test.YtpmjngfhnebmaaaGreatDoorBmSeven
import Derived.Test.YtpmjngfhnebmaaaGreatDoorProg
namespace Go.Bm
open Go.Proofs
set_option maxRecDepth 100000
abbrev ya0(g:Nat)(h:Option TypeId)(i:Option IntKind)(m:Bool):Ty:=.mk true false false false false 1 g h i none [] none m
abbrev ya1(f:Nat)(g:Nat)(k:List (Nat×Nat×Nat)):Ty:=.mk true true false false true f g none none none k none false
abbrev ya2:Ty:=(ya0 8 none none false)
abbrev ya3:Ty:=(ya0 0 none none false)
abbrev ya4:Ty:=(ya0 16 none none true)
abbrev ya5:Ty:=(ya0 8 none (some .u64) false)
abbrev ya6:Ty:=(ya0 1 none (some .u8) false)
abbrev ya7:Ty:=(ya1 1 8 [(0,(17,1))])
abbrev ya8:Ty:=(ya0 4 none (some .i32) false)
abbrev ya9:Ty:=(ya0 8 none (some .i64) false)
abbrev yb0:Ty:=(ya0 24 (some 2) none false)
abbrev yb1:Ty:=(ya1 4 24 [(0,(2,1)),(1,(3,1)),(2,(4,1)),(3,(6,1))])
abbrev yb2:Ty:=(ya1 2 24 [(0,(9,1)),(1,(12,1))])
abbrev yb3:Ty:=(ya1 5 104 [(0,(2,1)),(1,(24,1)),(2,(24,1)),(3,(25,1)),(4,(25,1))])
abbrev yb4:Ty:=(ya1 5 104 [(0,(2,1)),(1,(24,1)),(2,(24,1)),(3,(24,1)),(4,(29,1))])
abbrev yb5:Ty:=(ya1 2 32 [(0,(2,1)),(1,(24,1))])
abbrev yb6:Ty:=(ya1 8 160 [(0,(51,1)),(1,(31,5)),(6,(24,1)),(7,(25,1))])
abbrev yb7:Ty:=(ya1 7 152 [(0,(31,5)),(5,(25,1)),(6,(24,1))])
abbrev yb8:Ty:=(ya1 2 16 [(0,(2,1)),(1,(2,1))])
abbrev yb9:Ty:=(ya1 3 40 [(0,(22,1)),(1,(3,1)),(2,(72,1))])
abbrev yc0:Ty:=(ya1 1 16 [(0,(9,1))])
abbrev yc1:Ty:=(ya1 3 56 [(0,(110,1)),(1,(111,1)),(2,(25,1))])
abbrev yc2:Ty:=(ya1 3 24 [(0,(17,1)),(1,(116,1)),(2,(117,1))])
abbrev yc3:Ty:=(ya1 3 40 [(0,(2,1)),(1,(2,1)),(2,(24,1))])
abbrev yc4:Ty:=(ya1 4 40 [(0,(17,1)),(1,(17,1)),(2,(17,1)),(3,(9,1))])
abbrev yc5:Ty:=(ya1 0 0 [(0,(221,0))])
abbrev yc6:Ty:=(ya1 11 48 [(0,(12,1)),(1,(12,1)),(2,(206,1)),(3,(226,1)),(4,(5,1)),(5,(5,1)),(6,(124,1)),(7,(227,1)),(8,(228,1)),(9,(229,1)),(10,(230,1))])
abbrev yc7:Ty:=(ya1 2 24 [(0,(9,1)),(1,(124,1))])
abbrev yc8:Ty:=(ya1 5 16 [(0,(229,1)),(1,(239,1)),(2,(239,1)),(3,(206,1)),(4,(206,1))])
abbrev yc9:Ty:=(ya1 4 16 [(0,(229,1)),(1,(230,1)),(2,(243,1)),(3,(243,1))])
abbrev yd0:T:=(.sl (.int .i64))
abbrev yd1:T:=(.int .i64)
abbrev yd2:T:=(.p (.int .u64) (.p (.int .u64) (.p (.int .u32) (.p (.int .u8) (.p (.int .u8) (.p (.int .u8) (.p (.int .u8) (.p .any (.p .any (.p (.int .i32) (.int .i32)))))))))))
abbrev yd3:T:=(.p yd1 (.p yd0 (.p yd0 (.p yd0 (.sl yd0)))))
abbrev yd4:T:=(.p (.int .i32) (.p (.int .i32) (.p (.int .i32) (.int .i32))))
abbrev yd5:T:=(.sl (.p yd1 yd0))
abbrev yd6:T:=(.p (.int .i32) (.p (.int .u16) (.p (.int .u16) (.p (.int .u32) (.int .u32)))))
abbrev yd7:T:=(.int .u64)
abbrev yd8:T:=(.int .u8)
abbrev yd9:T:=(.p yd1 (.p yd0 (.p yd0 (.p yd5 yd5))))
abbrev ye0:T:=(.p .any (.p .any (.p .any .str)))
abbrev ye1:T:=(.p yd1 (.p yd1 yd0))
abbrev ye2:T:=(.p yd1 (.p yd1 (.p .bool yd8)))
abbrev ye3:T:=(.p .any (.p yd3 (.p yd0 yd5)))
abbrev ye4:T:=(.p (.sl yd8) (.p yd1 yd7))
abbrev ye5:T:=(.p .any (.p .any yd7))
abbrev ye6:T:=(.int .i32)
abbrev ye7:T:=(.p yd3 (.p yd5 yd0))
abbrev ye8:T:=(.p .any (.p yd0 yd5))
abbrev ye9:T:=(.p .str yd7)
abbrev yf0:T:=(.p .str yd8)
abbrev yf1:T:=(.p yd1 (.ns yd0))
abbrev yf2:T:=(.p yd1 yd1)
def tys:List Ty:=[ya3,ya2,ya9,ya9,(.mk true false true false false 1 1 none none none [] none false),ya6,ya6,yb1,yb1,(.mk true false false true false 1 16 none none none [] none false),(.mk true false false true false 1 16 none none none [] none false),(.mk true false false true false 1 16 none none none [] none false),ya5,yb2,yb2,ya2,ya2,ya2,ya7,ya7,ya4,ya8,(ya0 24 (some 5) none false),ya2,yb0,(ya0 24 (some 38) none false),yb3,yb3,ya2,(ya0 24 (some 24) none false),yb4,yb4,ya3,ya2,ya2,ya2,ya2,yb5,yb5,ya3,ya2,ya2,ya3,ya2,ya2,ya2,ya2,ya2,ya2,ya3,ya2,ya2,yb6,yb6,ya2,ya2,yb7,yb7,ya3,ya2,ya2,ya2,ya2,ya2,ya2,ya2,ya2,yb8,yb8,ya2,ya2,ya2,ya5,yb9,yb9,ya2,ya3,ya2,ya4,ya4,ya3,ya2,yc0,yc0,ya2,ya2,ya2,ya2,ya2,ya2,ya3,ya2,ya2,ya2,ya2,ya2,ya3,ya2,ya2,ya2,ya2,ya3,ya2,ya2,ya5,ya2,ya2,ya3,ya2,ya2,(.mk true false false false false 1 8 none none (some (9,2)) [] none false),yb0,yc1,yc1,ya2,ya2,ya2,ya5,yc2,yc2,ya2,ya4,ya4,ya2,ya6,ya2,ya2,ya2,ya2,ya2,(ya0 24 (some 9) none false),ya2,ya2,ya2,ya2,ya3,ya2,ya2,ya2,ya2,ya3,ya2,ya2,yb0,ya2,ya2,ya2,ya2,ya2,ya2,ya2,ya2,ya2,ya2,ya7,ya7,ya2,ya2,ya2,ya2,ya4,ya3,ya2,ya4,ya2,ya4,(ya0 24 (some 79) none false),ya2,ya2,ya2,ya3,ya2,ya2,ya2,ya3,ya2,ya2,ya2,ya2,ya2,ya2,ya2,(ya0 24 (some 4) none false),ya2,ya2,ya2,ya2,ya2,ya2,ya2,ya2,(ya0 24 (some 194) none false),ya2,yc3,yc3,ya2,(.mk true false false false false 1 8 none none (some (2,2)) [] none false),ya2,ya9,ya3,ya2,ya2,ya2,ya3,ya2,ya2,(ya0 4 none (some .u32) false),ya2,ya2,ya5,ya2,ya2,ya2,ya2,ya2,ya2,ya3,ya2,ya2,
yc4,yc4,(.mk true true false false false 0 0 none none none [] (some (16,0)) false),yc5,yc5,ya2,ya2,ya6,ya2,ya2,ya8,ya8,yc6,yc6,ya2,ya2,yc7,yc7,ya2,ya2,(ya0 2 none (some .u16) false),yc8,yc8,(ya0 24 (some 245) none false),ya8,yc9,yc9,ya2]
def tyd:List T:=[.any,.any,yd1,yd1,.bool,yd8,yd8,ye2,ye2,.str,.str,.str,yd7,ye9,ye9,.any,.any,.any,.any,.any,.any,ye6,(.sl yd8),.any,yd0,yd5,yd9,yd9,.any,(.sl yd0),yd3,yd3,.any,.any,.any,.any,.any,(.p yd1 yd0),(.p yd1 yd0),.any,.any,.any,.any,.any,.any,.any,.any,.any,.any,.any,.any,.any,ye3,ye3,.any,.any,ye7,ye7,.any,.any,.any,.any,.any,.any,.any,.any,.any,yf2,yf2,.any,.any,.any,yd7,ye4,ye4,.any,.any,.any,.any,.any,.any,.any,.str,.str,.any,.any,.any,.any,.any,.any,.any,.any,.any,.any,.any,.any,.any,.any,.any,.any,.any,.any,.any,.any,yd7,.any,.any,.any,.any,.any,.any,yd0,ye8,ye8,.any,.any,.any,yd7,ye5,ye5,.any,.any,.any,.any,yd8,.any,.any,.any,.any,.any,(.sl .str),.any,.any,.any,.any,.any,.any,.any,.any,.any,.any,.any,.any,yd0,.any,.any,.any,.any,.any,.any,.any,.any,.any,.any,.any,.any,.any,.any,.any,.any,.any,.any,.any,.any,.any,.any,(.sl .any),.any,.any,.any,.any,.any,.any,.any,.any,.any,.any,.any,.any,.any,.any,.any,(.sl .bool),.any,.any,.any,.any,.any,.any,.any,.any,(.sl ye1),.any,ye1,ye1,.any,.any,.any,yd1,.any,.any,.any,.any,.any,.any,.any,(.int .u32),.any,.any,yd7,.any,.any,.any,.any,.any,.any,.any,.any,.any,ye0,ye0,.u,.u,.u,.any,.any,yd8,.any,.any,ye6,ye6,yd2,yd2,.any,.any,yf0,yf0,.any,.any,(.int .u16),yd6,yd6,(.sl yd4),ye6,yd4,yd4,.any]
def tyz:List Bool:=[false,true,true,true,true,true,true,true,true,true,true,true,true,true,true,true,true,true,true,true,true,true,true,true,true,true,true,true,true,true,true,true,false,true,true,true,true,true,true,false,true,true,false,true,true,true,true,true,true,false,true,true,true,true,true,true,true,true,false,true,true,true,true,true,true,true,true,true,true,true,true,true,true,true,true,true,false,true,true,true,false,true,true,true,true,true,true,true,true,true,false,true,true,true,true,true,false,true,true,true,true,false,true,true,true,true,true,false,true,true,true,true,true,true,true,true,true,true,true,true,true,true,true,true,true,true,true,true,true,true,true,true,true,true,true,false,true,true,true,true,false,true,true,true,true,true,true,true,true,true,true,true,true,true,true,true,true,true,true,true,true,false,true,true,true,true,true,true,true,true,false,true,true,true,false,true,true,true,true,true,true,true,true,true,true,true,true,true,true,true,true,true,true,true,true,true,true,true,true,false,true,true,true,false,true,true,true,true,true,true,true,true,true,true,true,true,false,true,true,true,true,true,true,true,true,true,true,true,true,true,true,true,true,true,true,true,true,true,true,true,true,true,true,true,true,true,true]
def tyq:List Nat:=[0,0,0,0,0,0,0,0,0,0,0,0,0,0,0,0,0,0,0,0,0,0,0,0,0,0,0,0,0,0,0,0,0,0,0,0,0,0,0,0,0,0,0,0,0,0,0,0,0,0,0,0,0,0,0,0,0,0,0,0,0,0,0,0,0,0,0,2,2,0,0,0,0,0,0,0,0,0,0,0,0,0,0,0,0,0,0,0,0,0,0,0,0,0,0,0,0,0,0,0,0,0,0,0,0,0,0,0,0,0,0,0,0,0,0,0,0,0,0,0,0,0,0,0,0,0,0,0,0,0,0,0,0,0,0,0,0,0,0,0,0,0,0,0,0,0,0,0,0,0,0,0,0,0,0,0,0,0,0,0,0,0,0,0,0,0,0,0,0,0,0,0,0,0,0,0,0,0,0,0,0,0,0,0,0,0,0,0,0,0,0,0,0,0,0,0,0,0,0,0,0,0,0,0,0,0,0,0,0,0,0,0,0,0,0,0,0,0,0,0,0,0,0,0,0,0,0,0,0,0,0,0,0,0,0,0,0,0,0,0,0,0,0,0,0,0,0]
def tab:Tab:=Ld tys tyd tyz tyq
theorem aR:TabOk Tryz.prog tab:=PE 247 tys tyd tyz tyq (by kernel_rfl) (by kernel_rfl) (by kernel_rfl)
def tydN:List T:=[.any,.any,yd1,yd1,.bool,yd8,yd8,ye2,ye2,.str,.str,.str,yd7,ye9,ye9,.any,.any,.any,.any,.any,.any,ye6,(.sl yd8),.any,(.ns yd0),(.sl yf1),yd9,yd9,.any,(.sl yd0),yd3,yd3,.any,.any,.any,.any,.any,(.p yd1 yd0),yf1,.any,.any,.any,.any,.any,.any,.any,.any,.any,.any,.any,.any,.any,ye3,ye3,.any,.any,ye7,ye7,.any,.any,.any,.any,.any,.any,.any,.any,.any,yf2,yf2,.any,.any,.any,yd7,ye4,ye4,.any,.any,.any,.any,.any,.any,.any,.str,.str,.any,.any,.any,.any,.any,.any,.any,.any,.any,.any,.any,.any,.any,.any,.any,.any,.any,.any,.any,.any,yd7,.any,.any,.any,.any,.any,.any,yd0,ye8,(.p .any (.p yd0 (.sl yf1))),.any,.any,.any,yd7,ye5,ye5,.any,.any,.any,.any,yd8,.any,.any,.any,.any,.any,(.sl .str),.any,.any,.any,.any,.any,.any,.any,.any,.any,.any,.any,.any,yd0,.any,.any,.any,.any,.any,.any,.any,.any,.any,.any,.any,.any,.any,.any,.any,.any,.any,.any,.any,.any,.any,.any,(.sl .any),.any,.any,.any,.any,.any,.any,.any,.any,.any,.any,.any,.any,.any,.any,.any,(.sl .bool),.any,.any,.any,.any,.any,.any,.any,.any,(.sl ye1),.any,ye1,ye1,.any,.any,.any,yd1,.any,.any,.any,.any,.any,.any,.any,(.int .u32),.any,.any,yd7,.any,.any,.any,.any,.any,.any,.any,.any,.any,ye0,ye0,.u,.u,.u,.any,.any,yd8,.any,.any,ye6,ye6,yd2,yd2,.any,.any,yf0,yf0,.any,.any,(.int .u16),yd6,yd6,(.sl yd4),ye6,yd4,yd4,.any]
def agb:Tab:=Ld tys tydN tyz tyq
theorem Qn:TabOk Tryz.prog agb:=PE 247 tys tydN tyz tyq (by kernel_rfl) (by kernel_rfl) (by kernel_rfl)
end Go.Bm
