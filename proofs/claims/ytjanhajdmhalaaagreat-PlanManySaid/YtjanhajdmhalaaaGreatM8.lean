/- Part. -/
import Derived.Test.YtjanhajdmhalaaaGreatChecked
import Derived.Test.YtjanhajdmhalaaaGreatM7
set_option linter.unusedVariables false
set_option linter.unusedSimpArgs false
set_option linter.unusedSectionVars false
namespace Go.Proofs.YtjanhajdmhalaaaGreat
open Go Go.Gx
abbrev wgL:Go.Conc.Lib.WgLink:={ add:=21,done:=23,wait:=24,relMerge:=43,disable:=44,enable:=45,inBubble:=46,associate:=47,fatal:=48,uOr:=49,uAdd:=50,raceRead:=51,uLoad:=52,uStore:=53,disassociate:=54,semrelease:=55,acquire:=56,isAssociated:=57,uCas:=58,raceWrite:=59,semacquire:=60,orU64:=87,addU64:=88,loadU64:=89,storeU64:=90,casU64:=91,tWgP:=138,tUP:=140,tAssoc:=141,tWg:=107,tAU:=105,tU64:=71,tUint:=145,tU32:=44,tPU32:=146,tPAU:=188,tPU64:=190,tNoCopy:=101,tANoCopy:=102,tAlign64:=103 }
set_option maxRecDepth 8000 in
theorem wgH:Go.Conc.Lib.WgLib Tryz.prog wgL :=
  ⟨Tryz.func21,Tryz.func23,Tryz.func24,Tryz.func43,Tryz.func44,Tryz.func45,Tryz.func46,Tryz.func47,Tryz.func48,Tryz.func49,Tryz.func50,Tryz.func51,Tryz.func52,Tryz.func53,Tryz.func54,Tryz.func55,Tryz.func56,Tryz.func57,Tryz.func58,Tryz.func59,Tryz.func60,Tryz.func87,Tryz.func88,Tryz.func89,Tryz.func90,Tryz.func91,Tryz.underlying138,Tryz.runUnderlying138,Tryz.sizeOf138,Tryz.isAgg138,Tryz.zeroValue138,Tryz.underlying140,Tryz.runUnderlying140,Tryz.sizeOf140,Tryz.isAgg140,Tryz.zeroValue140,Tryz.underlying141,Tryz.runUnderlying141,Tryz.sizeOf141,Tryz.isAgg141,Tryz.zeroValue141,Tryz.underlying107,Tryz.runUnderlying107,Tryz.sizeOf107,Tryz.isAgg107,Tryz.zeroValue107,Tryz.underlying105,Tryz.runUnderlying105,Tryz.sizeOf105,Tryz.isAgg105,Tryz.zeroValue105,Tryz.underlying71,Tryz.runUnderlying71,Tryz.sizeOf71,Tryz.isAgg71,Tryz.zeroValue71,Tryz.underlying145,Tryz.runUnderlying145,Tryz.sizeOf145,Tryz.isAgg145,Tryz.zeroValue145,Tryz.underlying44,Tryz.runUnderlying44,Tryz.sizeOf44,Tryz.isAgg44,Tryz.zeroValue44,Tryz.underlying146,Tryz.runUnderlying146,Tryz.sizeOf146,Tryz.isAgg146,Tryz.zeroValue146,Tryz.underlying188,Tryz.runUnderlying188,Tryz.sizeOf188,Tryz.isAgg188,Tryz.zeroValue188,Tryz.underlying190,Tryz.runUnderlying190,Tryz.sizeOf190,Tryz.isAgg190,Tryz.zeroValue190,Tryz.underlying0,Tryz.runUnderlying0,Tryz.sizeOf0,Tryz.isAgg0,Tryz.zeroValue0,Tryz.underlying3,Tryz.runUnderlying3,Tryz.sizeOf3,Tryz.isAgg3,Tryz.zeroValue3,Tryz.underlying4,Tryz.runUnderlying4,Tryz.sizeOf4,Tryz.isAgg4,Tryz.zeroValue4,Tryz.underlying9,Tryz.runUnderlying9,Tryz.sizeOf9,Tryz.isAgg9,Tryz.zeroValue9,Tryz.underlying20,Tryz.runUnderlying20,Tryz.sizeOf20,Tryz.isAgg20,Tryz.zeroValue20,Tryz.underlying21,Tryz.runUnderlying21,Tryz.sizeOf21,Tryz.isAgg21,Tryz.zeroValue21,(by kernel_rfl),(by kernel_rfl)⟩
instance:Go.ConcR.Payload:=⟨4⟩
end Go.Proofs.YtjanhajdmhalaaaGreat
